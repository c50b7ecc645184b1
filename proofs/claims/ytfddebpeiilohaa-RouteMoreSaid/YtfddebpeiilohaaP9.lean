/-
  Walk: the law RouteMore (the text is printed by wip/tools/mkp9.py).
-/
import Derived.Test.YtfddebpeiilohaaP8
set_option linter.all false
namespace Go.Proofs.Ytfddebpeiilohaa
open Go Go.W Go.RowKit

section
variable {n : Int} {l : List Edg} {ts : List Truck} {ns : List Need} {hd rt : Int} {rn : List Int}
theorem more_ok {more : Int} {r0 r1 : Int} {x y : List Int} (hA : MostAns n l ts ns hd rt rn 0 r0 x) (hM : MostAns n l ts ns hd rt (rn ++ [more]) 0 r1 y) :
    (movedE n l ts ns hd x = 0 ∧ movedE n l ts ns hd y = 0 ∧ movedE n l ts ns hd rn = 0) ∧ movedV n l ts ns hd x ≤ movedV n l ts ns hd y ∧ movedV n l ts ns hd x ≤ movedV n l ts ns hd rn := by
  obtain ⟨h0, _, hb⟩ := hA.good
  obtain ⟨h1, _, hb'⟩ := hM.good
  obtain ⟨m, rfl, hk⟩ := askOk_of h0
  obtain ⟨m', hm, hk'⟩ := askOk_of h1
  obtain rfl : m = m' := by omega
  obtain ⟨p1, p2⟩ := hk.moved hb.1.1.2
  obtain ⟨p3, p4⟩ := hk'.moved hb'.1.1.2
  obtain ⟨p5, p6⟩ := hk.moved (o := rn) (fun i hi => hi)
  refine ⟨⟨p1, p3, p5⟩, ?_, ?_⟩
  · rw [p2, p4]
    have := hb'.2 x ⟨⟨hb.1.1.1, fun i hi => List.mem_append_left _ (hb.1.1.2 i hi)⟩, hb.1.2⟩
    have h : ¬ mvL ns y < mvL ns x := fun h => this (.inl h)
    omega
  · rw [p2, p6]
    exact (mvL_part hk.nd hb.1.1.1 hb.1.1.2 hk.pos).1
end
abbrev bR (g : Nat) (r : Int) (X : Option Addr) (n c : Nat) : Blk := ⟨g, 34, [I r, .slice X n c]⟩
abbrev bA (g : Nat) (r : Int) (X : Option Addr) (n c : Nat) : Blk := ⟨g, 31, [I r, .slice X n c]⟩
abbrev bN (g : Nat) (n : Int) (A : Option Addr) (a b : Nat) (B : Option Addr) (c d : Nat) (C : Option Addr) (e f : Nat) (h : Int) : Blk := ⟨g, 28, [I n, .slice A a b, .slice B c d, .slice C e f, I h]⟩
abbrev bM (g : Nat) (l : List Value) : Blk := ⟨g, 3, l⟩
set_option maxHeartbeats 8000000 in
theorem lawMore (n hd rt more : Int) (A B C R : Option Addr) (l : List Edg) (ts : List Truck) (ns : List Need) (rn : List Int) (ca cb cc cr : Nat) (w0 : World) (hz : EdgsAt w0 A l) (ht : RowsAt 4 truckCells w0 B ts) (hn : RowsAt 2 needCells w0 C ns) (hcc : ns.length ≤ cc) (hr : IntsAt w0 R rn) :
    Calls Try.prog 8 #[.agg #[I n, .slice A l.length ca, .slice B ts.length cb, .slice C ns.length cc, I hd], .agg #[I rt, .slice R rn.length cr], I more] w0 fun e w' => e = .returned (.bool true) ∧ Below w0.heap.size w0 w' := by
  have H := SH.refl w0
  refine Calls.ofWP Try.func8 rfl Try.results8 Try.ntmps8 rfl ?_
  refine WP.seq ?_
  refine WP.region ?_
  refine OPS.box rfl rfl rfl rfl (cA rfl) H ?_
  clear H; intro g3 w H
  refine OPS.box rfl rfl rfl rfl (cA rfl) H ?_
  clear H; intro g4 w H
  refine OPS.val rfl rfl rfl (Ev.asB rfl) ?_
  refine OPS.nil ?_
  refine WP.seq ?_
  refine WP.seq ?_
  refine WP.region ?_
  refine OPS.val rfl rfl rfl ((by exact Ev.loadO 1 H rfl (agg_run rfl) (size_run rfl) (by rfl) rfl)) ?_
  refine OPS.val rfl rfl rfl ((by exact Ev.loadO 0 H rfl (agg_run rfl) (size_run rfl) (by rfl) rfl)) ?_
  refine OPS.call (d := some 19) rfl rfl rfl (EvC.func (fun_run rfl)) (lawFew n hd rt A B C R l.length ts.length ns.length rn.length ca cb cc cr w) ?_
  rintro _ w ⟨rfl, hb⟩
  refine ⟨_, rfl, ?_⟩
  replace H := H.toBelow hb; clear hb
  refine OPS.val rfl rfl rfl (Ev.not rfl) ?_
  refine OPS.nil ?_
  refine WP.cond rfl (fun hc1 => ?_) (fun hc1 => ?_)
  · refine WP.seq ?_
    refine WP.region ?_
    refine OPS.call (d := some 21) rfl rfl rfl (EvC.func (fun_run rfl)) (lawAwakeR w) ?_
    rintro _ w ⟨rfl, hb⟩
    refine ⟨_, rfl, ?_⟩
    replace H := H.toBelow hb; clear hb
    refine OPS.val rfl rfl rfl (Ev.asB rfl) ?_
    refine OPS.nil ?_
    refine WP.ret ⟨_, rfl, ?_⟩
    exact ⟨rfl, H.below⟩
  have hlen : rn.length ≤ 10 := by
    have := (fewL_iff l.length ts.length ns.length rn.length).1 (by simpa using hc1)
    omega
  have hmk := fun w V cv hz ht hn hr => routeMostX n hd rt A B C V l ts ns (rn ++ [more]) ca cb cc cv w hz ht hn hcc hr (by simp; omega)
  rw [show (rn ++ [more]).length = rn.length + 1 by simp] at hmk
  refine WP.skip ?_
  refine WP.seq ?_
  refine WP.region ?_
  refine OPS.val rfl rfl rfl ((by exact Ev.loadO 1 H rfl (agg_run rfl) (size_run rfl) (by rfl) rfl)) ?_
  refine OPS.val rfl rfl rfl (Ev.fieldAddr (fld_run rfl) rfl) ?_
  refine OPS.val rfl rfl rfl (Ev.load1 (agg_run rfl) rfl (by exact H.ldL 0 rfl _ rfl)) ?_
  refine OPS.val rfl rfl rfl (Ev.fieldAddr (fld_run rfl) rfl) ?_
  refine OPS.val rfl rfl rfl (Ev.load1 (agg_run rfl) rfl (by exact H.ldL 0 rfl _ rfl)) ?_
  refine OPS.call (d := some 28) rfl rfl rfl (EvC.func (fun_run rfl)) (routeMostX n hd rt A B C R l ts ns rn ca cb cc cr w (hz.sh H) (ht.sh H) (hn.sh H) hcc (hr.sh H) (by omega)) ?_
  rintro _ w ⟨ea, ra, x, X, cx, Lf, rfl, hA, hOX, Hc⟩
  refine ⟨_, rfl, ?_⟩
  replace H := SH.call (L1 := [_, _]) (Lv := []) H Hc
  clear Hc
  simp only [List.cons_append, List.nil_append] at H
  refine OPS.val rfl rfl rfl (Ev.mvT rfl) ?_
  refine OPS.val rfl rfl rfl (Ev.extract rfl rfl) ?_
  refine OPS.val rfl rfl rfl (Ev.extract rfl rfl) ?_
  refine OPS.alloc rfl rfl rfl rfl (zero_run rfl) rfl H ?_
  clear H; intro g7 w H
  refine OPS.store 0 _ rfl rfl rfl (size_run rfl) rfl (cA rfl) rfl rfl H rfl (by simp) ?_
  clear H; intro w H; try simp only [List.set_cons_zero, List.set_cons_succ, putL, Nat.zero_add] at H
  refine OPS.val rfl rfl rfl (Ev.asI rfl) ?_
  refine OPS.nil ?_
  refine WP.seq ?_
  have hxl := hA.len
  have E000 : SH w0 [] w (bR g7 ra X x.length cx :: bA g4 rt R rn.length cr :: bN g3 n A l.length ca B ts.length cb C ns.length cc hd :: Lf) := H
  refine WP.rheldC [9, 10, 31, 32, 33, 34, 35, 36, 37, 38, 39, 40, 41, 42, 43, 44] (fun u w' => ∃ (eb rb : Int) (y : List Int) (Y : Option Addr) (cy : Nat) (Lm : List Blk) (g9 : Nat), u 9 = .pointer (some ⟨g9, 0, none⟩) ∧ u 10 = I eb ∧ MostAns n l ts ns hd rt (rn ++ [more]) eb rb y ∧ OwnS Y cy y.length (y.map I) 3 1 Lm ∧ SH w0 [] w' (⟨g9, 34, [I rb, .slice Y y.length cy]⟩ :: ((bR g7 ra X x.length cx :: bA g4 rt R rn.length cr :: bN g3 n A l.length ca B ts.length cb C ns.length cc hd :: Lf) ++ Lm))) mixed H ?_ ?_
  · clear H; intro w hbw4 H
    refine OPH.take 0 rfl rfl rfl rfl (by kernel_rfl) (by kernel_rfl) (by kernel_rfl) rfl (by exact H) (fun w H => (by exact Ev.loadO 2 H rfl (agg_run rfl) (size_run rfl) (by rfl) rfl)) ?_
    refine OPH.take 1 rfl rfl rfl rfl (by kernel_rfl) (by kernel_rfl) (by kernel_rfl) rfl (by exact H) (fun w H => Ev.fieldAddr (fld_run rfl) rfl) ?_
    refine OPH.take 2 rfl rfl rfl rfl (by kernel_rfl) (by kernel_rfl) (by kernel_rfl) rfl (by exact H) (fun w H => Ev.load1 (agg_run rfl) rfl (by exact H.ldL 1 rfl _ rfl)) ?_
    refine OPH.take 4 rfl rfl rfl rfl (by kernel_rfl) (by kernel_rfl) (by kernel_rfl) rfl (by exact H) (fun w H => Ev.fieldAddr (fld_run rfl) rfl) ?_
    refine OPH.take 5 rfl rfl rfl rfl (by kernel_rfl) (by kernel_rfl) (by kernel_rfl) rfl (by exact H) (fun w H => Ev.load1 (agg_run rfl) rfl (by exact H.ldL 1 rfl _ rfl)) ?_
    refine OPH.take 7 rfl rfl rfl rfl (by kernel_rfl) (by kernel_rfl) (by kernel_rfl) rfl (by exact H) (fun w H => Ev.mvI rfl) ?_
    refine OPH.all [3, 8, 14] (by kernel_rfl) (by simp) rfl ?_
    intro i hi; simp only [List.mem_cons, List.not_mem_nil, or_false] at hi
    rcases hi with rfl | rfl | rfl
    · refine ⟨_, rfl, ?_⟩
      first
      | (refine OPS.buildSlice rfl rfl rfl rfl (bsl_29_0_ (e := fun _ => .int .i64 0)) E110 ?_
         clear H; intro g35 w E1
         have E113 : SH w0 [] w (bR g9 0 none 0 0 :: (bM g40 [I more] :: ((bR g7 ra X x.length cx :: bA g4 rt R rn.length cr :: bN g3 n A l.length ca B ts.length cb C ns.length cc hd :: Lf) ++ [⟨g35, 3, []⟩]))) := E1.perm (by exact permBy fun f => by simp <;> omega)
         clear E1 E110
         have H := E113.drop (L' := (bR g7 ra X x.length cx :: bA g4 rt R rn.length cr :: bN g3 n A l.length ca B ts.length cb C ns.length cc hd :: Lf)) Sb.out)
      | (refine OPS.buildSlice rfl rfl rfl rfl (bsl_29_0_ (e := fun _ => .int .i64 0)) E100 ?_
         clear H; intro g35 w E1
         have E103 : SH w0 [] w (bR g9 0 none 0 0 :: ((bR g7 ra X x.length cx :: bA g4 rt R rn.length cr :: bN g3 n A l.length ca B ts.length cb C ns.length cc hd :: Lf) ++ [⟨g35, 3, []⟩])) := E1.perm (by exact permBy fun f => by simp <;> omega)
         clear E1 E100
         have H := E103.drop (L' := (bR g7 ra X x.length cx :: bA g4 rt R rn.length cr :: bN g3 n A l.length ca B ts.length cb C ns.length cc hd :: Lf)) Sb.out)
      | (refine OPS.buildSlice rfl rfl rfl rfl (bsl_29_0_ (e := fun _ => .int .i64 0)) E010 ?_
         clear H; intro g35 w E1
         have E013 : SH w0 [] w (bM g40 [I more] :: ((bR g7 ra X x.length cx :: bA g4 rt R rn.length cr :: bN g3 n A l.length ca B ts.length cb C ns.length cc hd :: Lf) ++ [⟨g35, 3, []⟩])) := E1.perm (by exact permBy fun f => by simp <;> omega)
         clear E1 E010
         have H := E013.drop (L' := (bR g7 ra X x.length cx :: bA g4 rt R rn.length cr :: bN g3 n A l.length ca B ts.length cb C ns.length cc hd :: Lf)) Sb.out)
      | (refine OPS.buildSlice rfl rfl rfl rfl (bsl_29_0_ (e := fun _ => .int .i64 0)) (E000.toBelow hbw4) ?_
         clear H; intro g35 w E1
         have E003 : SH w0 [] w ((bR g7 ra X x.length cx :: bA g4 rt R rn.length cr :: bN g3 n A l.length ca B ts.length cb C ns.length cc hd :: Lf) ++ [⟨g35, 3, []⟩]) := E1.perm (by exact permBy fun f => by simp <;> omega)
         clear E1 E000
         have H := E003.drop (L' := (bR g7 ra X x.length cx :: bA g4 rt R rn.length cr :: bN g3 n A l.length ca B ts.length cb C ns.length cc hd :: Lf)) Sb.out)
      refine OPS.nil ?_
      refine ⟨(by exact H), ?_⟩
      refine OPH.all [6, 8, 14] (by kernel_rfl) (by simp) rfl ?_
      intro i hi; simp only [List.mem_cons, List.not_mem_nil, or_false] at hi
      rcases hi with rfl | rfl | rfl
      · refine ⟨_, rfl, ?_⟩
        first
        | (refine OPS.appendE (m := rn.length) (news := rn.map I) (R := bR g9 0 none 0 0 :: (bM g40 [I more] :: ((bR g7 ra X x.length cx :: bA g4 rt R rn.length cr :: bN g3 n A l.length ca B ts.length cb C ns.length cc hd :: Lf)))) rfl rfl rfl rfl rfl (sl_run rfl) rfl rfl (OwnS.mt (g := g35)) (by simp) (intsFrom (hr.sh E113)) (intsOne rn) (by omega) (by unfold maxLen; omega) E113 (List.Perm.refl _) ?_
           clear H; intro AE ce Le w hOE E1
           have E116 : SH w0 [] w (bR g9 0 none 0 0 :: (bM g40 [I more] :: ((bR g7 ra X x.length cx :: bA g4 rt R rn.length cr :: bN g3 n A l.length ca B ts.length cb C ns.length cc hd :: Lf) ++ Le))) := E1
           clear E1 E113
           rw [Nat.zero_add, List.nil_append] at hOE
           rw [show 0 + rn.length = rn.length from Nat.zero_add _]
           have H := E116.drop (L' := (bR g7 ra X x.length cx :: bA g4 rt R rn.length cr :: bN g3 n A l.length ca B ts.length cb C ns.length cc hd :: Lf)) Sb.out)
        | (refine OPS.appendE (m := rn.length) (news := rn.map I) (R := bR g9 0 none 0 0 :: ((bR g7 ra X x.length cx :: bA g4 rt R rn.length cr :: bN g3 n A l.length ca B ts.length cb C ns.length cc hd :: Lf))) rfl rfl rfl rfl rfl (sl_run rfl) rfl rfl (OwnS.mt (g := g35)) (by simp) (intsFrom (hr.sh E103)) (intsOne rn) (by omega) (by unfold maxLen; omega) E103 (List.Perm.refl _) ?_
           clear H; intro AE ce Le w hOE E1
           have E106 : SH w0 [] w (bR g9 0 none 0 0 :: ((bR g7 ra X x.length cx :: bA g4 rt R rn.length cr :: bN g3 n A l.length ca B ts.length cb C ns.length cc hd :: Lf) ++ Le)) := E1
           clear E1 E103
           rw [Nat.zero_add, List.nil_append] at hOE
           rw [show 0 + rn.length = rn.length from Nat.zero_add _]
           have H := E106.drop (L' := (bR g7 ra X x.length cx :: bA g4 rt R rn.length cr :: bN g3 n A l.length ca B ts.length cb C ns.length cc hd :: Lf)) Sb.out)
        | (refine OPS.appendE (m := rn.length) (news := rn.map I) (R := bM g40 [I more] :: ((bR g7 ra X x.length cx :: bA g4 rt R rn.length cr :: bN g3 n A l.length ca B ts.length cb C ns.length cc hd :: Lf))) rfl rfl rfl rfl rfl (sl_run rfl) rfl rfl (OwnS.mt (g := g35)) (by simp) (intsFrom (hr.sh E013)) (intsOne rn) (by omega) (by unfold maxLen; omega) E013 (List.Perm.refl _) ?_
           clear H; intro AE ce Le w hOE E1
           have E016 : SH w0 [] w (bM g40 [I more] :: ((bR g7 ra X x.length cx :: bA g4 rt R rn.length cr :: bN g3 n A l.length ca B ts.length cb C ns.length cc hd :: Lf) ++ Le)) := E1
           clear E1 E013
           rw [Nat.zero_add, List.nil_append] at hOE
           rw [show 0 + rn.length = rn.length from Nat.zero_add _]
           have H := E016.drop (L' := (bR g7 ra X x.length cx :: bA g4 rt R rn.length cr :: bN g3 n A l.length ca B ts.length cb C ns.length cc hd :: Lf)) Sb.out)
        | (refine OPS.appendE (m := rn.length) (news := rn.map I) (R := (bR g7 ra X x.length cx :: bA g4 rt R rn.length cr :: bN g3 n A l.length ca B ts.length cb C ns.length cc hd :: Lf)) rfl rfl rfl rfl rfl (sl_run rfl) rfl rfl (OwnS.mt (g := g35)) (by simp) (intsFrom (hr.sh E003)) (intsOne rn) (by omega) (by unfold maxLen; omega) E003 (List.Perm.refl _) ?_
           clear H; intro AE ce Le w hOE E1
           have E006 : SH w0 [] w ((bR g7 ra X x.length cx :: bA g4 rt R rn.length cr :: bN g3 n A l.length ca B ts.length cb C ns.length cc hd :: Lf) ++ Le) := E1
           clear E1 E003
           rw [Nat.zero_add, List.nil_append] at hOE
           rw [show 0 + rn.length = rn.length from Nat.zero_add _]
           have H := E006.drop (L' := (bR g7 ra X x.length cx :: bA g4 rt R rn.length cr :: bN g3 n A l.length ca B ts.length cb C ns.length cc hd :: Lf)) Sb.out)
        refine OPS.nil ?_
        refine ⟨(by exact H), ?_⟩
        refine OPH.all [8, 14] (by kernel_rfl) (by simp) rfl ?_
        intro i hi; simp only [List.mem_cons, List.not_mem_nil, or_false] at hi
        rcases hi with rfl | rfl
        · refine ⟨_, rfl, ?_⟩
          first
          | (refine OPS.buildSlice rfl rfl rfl rfl (bsl_29_1_0 rfl) E106 ?_
             clear H; intro g40 w E1
             have E116 : SH w0 [] w (bR g9 0 none 0 0 :: (bM g40 [I more] :: ((bR g7 ra X x.length cx :: bA g4 rt R rn.length cr :: bN g3 n A l.length ca B ts.length cb C ns.length cc hd :: Lf) ++ Le))) := E1.perm (List.Perm.swap _ _ _)
             clear E1 E106
             have H := E116.drop (L' := (bR g7 ra X x.length cx :: bA g4 rt R rn.length cr :: bN g3 n A l.length ca B ts.length cb C ns.length cc hd :: Lf)) Sb.out)
          | (refine OPS.buildSlice rfl rfl rfl rfl (bsl_29_1_0 rfl) E103 ?_
             clear H; intro g40 w E1
             have E113 : SH w0 [] w (bR g9 0 none 0 0 :: (bM g40 [I more] :: ((bR g7 ra X x.length cx :: bA g4 rt R rn.length cr :: bN g3 n A l.length ca B ts.length cb C ns.length cc hd :: Lf) ++ [⟨g35, 3, []⟩]))) := E1.perm (List.Perm.swap _ _ _)
             clear E1 E103
             have H := E113.drop (L' := (bR g7 ra X x.length cx :: bA g4 rt R rn.length cr :: bN g3 n A l.length ca B ts.length cb C ns.length cc hd :: Lf)) Sb.out)
          | (refine OPS.buildSlice rfl rfl rfl rfl (bsl_29_1_0 rfl) E100 ?_
             clear H; intro g40 w E1
             have E110 : SH w0 [] w (bR g9 0 none 0 0 :: (bM g40 [I more] :: ((bR g7 ra X x.length cx :: bA g4 rt R rn.length cr :: bN g3 n A l.length ca B ts.length cb C ns.length cc hd :: Lf)))) := E1.perm (List.Perm.swap _ _ _)
             clear E1 E100
             have H := E110.drop (L' := (bR g7 ra X x.length cx :: bA g4 rt R rn.length cr :: bN g3 n A l.length ca B ts.length cb C ns.length cc hd :: Lf)) Sb.out)
          | (refine OPS.buildSlice rfl rfl rfl rfl (bsl_29_1_0 rfl) E006 ?_
             clear H; intro g40 w E1
             have E016 : SH w0 [] w (bM g40 [I more] :: ((bR g7 ra X x.length cx :: bA g4 rt R rn.length cr :: bN g3 n A l.length ca B ts.length cb C ns.length cc hd :: Lf) ++ Le)) := E1
             clear E1 E006
             have H := E016.drop (L' := (bR g7 ra X x.length cx :: bA g4 rt R rn.length cr :: bN g3 n A l.length ca B ts.length cb C ns.length cc hd :: Lf)) Sb.out)
          | (refine OPS.buildSlice rfl rfl rfl rfl (bsl_29_1_0 rfl) E003 ?_
             clear H; intro g40 w E1
             have E013 : SH w0 [] w (bM g40 [I more] :: ((bR g7 ra X x.length cx :: bA g4 rt R rn.length cr :: bN g3 n A l.length ca B ts.length cb C ns.length cc hd :: Lf) ++ [⟨g35, 3, []⟩])) := E1
             clear E1 E003
             have H := E013.drop (L' := (bR g7 ra X x.length cx :: bA g4 rt R rn.length cr :: bN g3 n A l.length ca B ts.length cb C ns.length cc hd :: Lf)) Sb.out)
          | (refine OPS.buildSlice rfl rfl rfl rfl (bsl_29_1_0 rfl) (E000.toBelow hbw4) ?_
             clear H; intro g40 w E1
             have E010 : SH w0 [] w (bM g40 [I more] :: ((bR g7 ra X x.length cx :: bA g4 rt R rn.length cr :: bN g3 n A l.length ca B ts.length cb C ns.length cc hd :: Lf))) := E1
             clear E1 E000
             have H := E010.drop (L' := (bR g7 ra X x.length cx :: bA g4 rt R rn.length cr :: bN g3 n A l.length ca B ts.length cb C ns.length cc hd :: Lf)) Sb.out)
          refine OPS.nil ?_
          refine ⟨(by exact H), ?_⟩
          refine OPH.all [9, 14] (by kernel_rfl) (by simp) rfl ?_
          intro i hi; simp only [List.mem_cons, List.not_mem_nil, or_false] at hi
          rcases hi with rfl | rfl
          · refine ⟨_, rfl, ?_⟩
            first
            | (refine OPS.append (m := 1) (news := [I more]) (R := bR g9 0 none 0 0 :: (bM g40 [I more] :: ((bR g7 ra X x.length cx :: bA g4 rt R rn.length cr :: bN g3 n A l.length ca B ts.length cb C ns.length cc hd :: Lf)))) rfl rfl rfl rfl rfl (sl_run rfl) rfl rfl hOE rfl (src_own E116 1 rfl) rfl (by omega) (by unfold maxLen; omega) E116 (List.Perm.refl _) ?_
               clear H hOE; intro AE ce Le w hOE E1
               rw [show rn.map I ++ [I more] = (rn ++ [more]).map I by simp] at hOE
               have E119 : SH w0 [] w (bR g9 0 none 0 0 :: (bM g40 [I more] :: ((bR g7 ra X x.length cx :: bA g4 rt R rn.length cr :: bN g3 n A l.length ca B ts.length cb C ns.length cc hd :: Lf) ++ Le))) := E1
               clear E1 E116
               have H := E119.drop (L' := (bR g7 ra X x.length cx :: bA g4 rt R rn.length cr :: bN g3 n A l.length ca B ts.length cb C ns.length cc hd :: Lf)) Sb.out)
            | (refine OPS.append (m := 1) (news := [I more]) (R := bM g40 [I more] :: ((bR g7 ra X x.length cx :: bA g4 rt R rn.length cr :: bN g3 n A l.length ca B ts.length cb C ns.length cc hd :: Lf))) rfl rfl rfl rfl rfl (sl_run rfl) rfl rfl hOE rfl (src_own E016 0 rfl) rfl (by omega) (by unfold maxLen; omega) E016 (List.Perm.refl _) ?_
               clear H hOE; intro AE ce Le w hOE E1
               rw [show rn.map I ++ [I more] = (rn ++ [more]).map I by simp] at hOE
               have E019 : SH w0 [] w (bM g40 [I more] :: ((bR g7 ra X x.length cx :: bA g4 rt R rn.length cr :: bN g3 n A l.length ca B ts.length cb C ns.length cc hd :: Lf) ++ Le)) := E1
               clear E1 E016
               have H := E019.drop (L' := (bR g7 ra X x.length cx :: bA g4 rt R rn.length cr :: bN g3 n A l.length ca B ts.length cb C ns.length cc hd :: Lf)) Sb.out)
            refine OPS.nil ?_
            refine ⟨(by exact H), ?_⟩
            refine OPH.all [10, 14] (by kernel_rfl) (by simp) rfl ?_
            intro i hi; simp only [List.mem_cons, List.not_mem_nil, or_false] at hi
            rcases hi with rfl | rfl
            · refine ⟨_, rfl, ?_⟩
              first
              | (refine OPS.call (d := some 42) rfl rfl rfl (EvC.func (fun_run rfl)) (hmk w AE ce (hz.sh E119) (ht.sh E119) (hn.sh E119) (ownS_at hOE E119 Sb.out)) ?_
                 rintro _ w ⟨eb, rb, y, Y, cy, Lm, rfl, hM, hOY, Hc⟩
                 refine ⟨_, rfl, ?_⟩
                 have E1 := SH.call (L1 := bR g9 0 none 0 0 :: ((bR g7 ra X x.length cx :: bA g4 rt R rn.length cr :: bN g3 n A l.length ca B ts.length cb C ns.length cc hd :: Lf))) (Lv := []) (by rw [List.append_nil]; exact E119.drop (List.Sublist.cons_cons _ Sb.out)) Hc
                 have E10X : SH w0 [] w (bR g9 0 none 0 0 :: ((bR g7 ra X x.length cx :: bA g4 rt R rn.length cr :: bN g3 n A l.length ca B ts.length cb C ns.length cc hd :: Lf) ++ Lm)) := E1
                 clear E1 Hc H E119
                 have H := E10X.drop (L' := (bR g7 ra X x.length cx :: bA g4 rt R rn.length cr :: bN g3 n A l.length ca B ts.length cb C ns.length cc hd :: Lf)) Sb.out)
              | (refine OPS.call (d := some 42) rfl rfl rfl (EvC.func (fun_run rfl)) (hmk w AE ce (hz.sh E019) (ht.sh E019) (hn.sh E019) (ownS_at hOE E019 Sb.out)) ?_
                 rintro _ w ⟨eb, rb, y, Y, cy, Lm, rfl, hM, hOY, Hc⟩
                 refine ⟨_, rfl, ?_⟩
                 have E1 := SH.call (L1 := (bR g7 ra X x.length cx :: bA g4 rt R rn.length cr :: bN g3 n A l.length ca B ts.length cb C ns.length cc hd :: Lf)) (Lv := []) (by rw [List.append_nil]; exact E019.drop (Sb.out)) Hc
                 have E00X : SH w0 [] w ((bR g7 ra X x.length cx :: bA g4 rt R rn.length cr :: bN g3 n A l.length ca B ts.length cb C ns.length cc hd :: Lf) ++ Lm) := E1
                 clear E1 Hc H E019
                 have H := E00X.drop (L' := (bR g7 ra X x.length cx :: bA g4 rt R rn.length cr :: bN g3 n A l.length ca B ts.length cb C ns.length cc hd :: Lf)) Sb.out)
              refine OPS.nil ?_
              refine ⟨(by exact H), ?_⟩
              refine OPH.take 11 rfl rfl rfl rfl (by kernel_rfl) (by kernel_rfl) (by kernel_rfl) rfl (by exact H) (fun w H => Ev.mvT rfl) ?_
              refine OPH.take 12 rfl rfl rfl rfl (by kernel_rfl) (by kernel_rfl) (by kernel_rfl) rfl (by exact H) (fun w H => Ev.extract rfl rfl) ?_
              refine OPH.take 13 rfl rfl rfl rfl (by kernel_rfl) (by kernel_rfl) (by kernel_rfl) rfl (by exact H) (fun w H => Ev.extract rfl rfl) ?_
              refine OPH.all [14] (by kernel_rfl) (by simp) rfl ?_
              intro i hi; simp only [List.mem_cons, List.not_mem_nil, or_false] at hi
              rcases hi with rfl
              · refine ⟨_, rfl, ?_⟩
                first
                | (refine OPS.alloc rfl rfl rfl rfl (zero_run rfl) rfl E00X ?_
                   clear H; intro g9 w E1
                   have E10X : SH w0 [] w (bR g9 0 none 0 0 :: ((bR g7 ra X x.length cx :: bA g4 rt R rn.length cr :: bN g3 n A l.length ca B ts.length cb C ns.length cc hd :: Lf) ++ Lm)) := E1
                   clear E1 E00X
                   have H := E10X.drop (L' := (bR g7 ra X x.length cx :: bA g4 rt R rn.length cr :: bN g3 n A l.length ca B ts.length cb C ns.length cc hd :: Lf)) Sb.out)
                | (refine OPS.alloc rfl rfl rfl rfl (zero_run rfl) rfl E019 ?_
                   clear H; intro g9 w E1
                   have E119 : SH w0 [] w (bR g9 0 none 0 0 :: (bM g40 [I more] :: ((bR g7 ra X x.length cx :: bA g4 rt R rn.length cr :: bN g3 n A l.length ca B ts.length cb C ns.length cc hd :: Lf) ++ Le))) := E1
                   clear E1 E019
                   have H := E119.drop (L' := (bR g7 ra X x.length cx :: bA g4 rt R rn.length cr :: bN g3 n A l.length ca B ts.length cb C ns.length cc hd :: Lf)) Sb.out)
                | (refine OPS.alloc rfl rfl rfl rfl (zero_run rfl) rfl E016 ?_
                   clear H; intro g9 w E1
                   have E116 : SH w0 [] w (bR g9 0 none 0 0 :: (bM g40 [I more] :: ((bR g7 ra X x.length cx :: bA g4 rt R rn.length cr :: bN g3 n A l.length ca B ts.length cb C ns.length cc hd :: Lf) ++ Le))) := E1
                   clear E1 E016
                   have H := E116.drop (L' := (bR g7 ra X x.length cx :: bA g4 rt R rn.length cr :: bN g3 n A l.length ca B ts.length cb C ns.length cc hd :: Lf)) Sb.out)
                | (refine OPS.alloc rfl rfl rfl rfl (zero_run rfl) rfl E006 ?_
                   clear H; intro g9 w E1
                   have E106 : SH w0 [] w (bR g9 0 none 0 0 :: ((bR g7 ra X x.length cx :: bA g4 rt R rn.length cr :: bN g3 n A l.length ca B ts.length cb C ns.length cc hd :: Lf) ++ Le)) := E1
                   clear E1 E006
                   have H := E106.drop (L' := (bR g7 ra X x.length cx :: bA g4 rt R rn.length cr :: bN g3 n A l.length ca B ts.length cb C ns.length cc hd :: Lf)) Sb.out)
                | (refine OPS.alloc rfl rfl rfl rfl (zero_run rfl) rfl E013 ?_
                   clear H; intro g9 w E1
                   have E113 : SH w0 [] w (bR g9 0 none 0 0 :: (bM g40 [I more] :: ((bR g7 ra X x.length cx :: bA g4 rt R rn.length cr :: bN g3 n A l.length ca B ts.length cb C ns.length cc hd :: Lf) ++ [⟨g35, 3, []⟩]))) := E1
                   clear E1 E013
                   have H := E113.drop (L' := (bR g7 ra X x.length cx :: bA g4 rt R rn.length cr :: bN g3 n A l.length ca B ts.length cb C ns.length cc hd :: Lf)) Sb.out)
                | (refine OPS.alloc rfl rfl rfl rfl (zero_run rfl) rfl E003 ?_
                   clear H; intro g9 w E1
                   have E103 : SH w0 [] w (bR g9 0 none 0 0 :: ((bR g7 ra X x.length cx :: bA g4 rt R rn.length cr :: bN g3 n A l.length ca B ts.length cb C ns.length cc hd :: Lf) ++ [⟨g35, 3, []⟩])) := E1
                   clear E1 E003
                   have H := E103.drop (L' := (bR g7 ra X x.length cx :: bA g4 rt R rn.length cr :: bN g3 n A l.length ca B ts.length cb C ns.length cc hd :: Lf)) Sb.out)
                | (refine OPS.alloc rfl rfl rfl rfl (zero_run rfl) rfl E010 ?_
                   clear H; intro g9 w E1
                   have E110 : SH w0 [] w (bR g9 0 none 0 0 :: (bM g40 [I more] :: ((bR g7 ra X x.length cx :: bA g4 rt R rn.length cr :: bN g3 n A l.length ca B ts.length cb C ns.length cc hd :: Lf)))) := E1
                   clear E1 E010
                   have H := E110.drop (L' := (bR g7 ra X x.length cx :: bA g4 rt R rn.length cr :: bN g3 n A l.length ca B ts.length cb C ns.length cc hd :: Lf)) Sb.out)
                | (refine OPS.alloc rfl rfl rfl rfl (zero_run rfl) rfl (E000.toBelow hbw4) ?_
                   clear H; intro g9 w E1
                   have E100 : SH w0 [] w (bR g9 0 none 0 0 :: ((bR g7 ra X x.length cx :: bA g4 rt R rn.length cr :: bN g3 n A l.length ca B ts.length cb C ns.length cc hd :: Lf))) := E1
                   clear E1 E000
                   have H := E100.drop (L' := (bR g7 ra X x.length cx :: bA g4 rt R rn.length cr :: bN g3 n A l.length ca B ts.length cb C ns.length cc hd :: Lf)) Sb.out)
                refine OPS.nil ?_
                refine ⟨(by exact H), ?_⟩
                refine OPH.all [15] (by kernel_rfl) (by simp) rfl ?_
                intro i hi; simp only [List.mem_cons, List.not_mem_nil, or_false] at hi
                rcases hi with rfl
                · refine ⟨_, rfl, ?_⟩
                  refine OPS.store 0 _ rfl rfl rfl (size_run rfl) rfl (cA rfl) rfl rfl E10X rfl (by simp) ?_
                  clear H; intro w E1; clear E10X
                  simp only [List.set_cons_zero, putL] at E1
                  have H := E1.drop (L' := (bR g7 ra X x.length cx :: bA g4 rt R rn.length cr :: bN g3 n A l.length ca B ts.length cb C ns.length cc hd :: Lf)) Sb.out
                  refine OPS.nil ?_
                  refine ⟨(by exact H), ?_⟩
                  refine OPH.take 16 rfl rfl rfl rfl (by kernel_rfl) (by kernel_rfl) (by kernel_rfl) rfl (by exact H) (fun w H => Ev.asI rfl) ?_
                  refine OPH.done (by kernel_rfl) ?_
                  exact ⟨(by repeat (first | exact Agree.refl _ _ | exact Agree.mix _ _ _ | refine Agree.upd rfl ?_ | refine Agree.mix2 rfl ?_)), eb, rb, y, Y, cy, Lm, g9, rfl, rfl, hM, hOY, E1⟩
            · refine ⟨_, rfl, ?_⟩
              first
              | (refine OPS.alloc rfl rfl rfl rfl (zero_run rfl) rfl E00X ?_
                 clear H; intro g9 w E1
                 have E10X : SH w0 [] w (bR g9 0 none 0 0 :: ((bR g7 ra X x.length cx :: bA g4 rt R rn.length cr :: bN g3 n A l.length ca B ts.length cb C ns.length cc hd :: Lf) ++ Lm)) := E1
                 clear E1 E00X
                 have H := E10X.drop (L' := (bR g7 ra X x.length cx :: bA g4 rt R rn.length cr :: bN g3 n A l.length ca B ts.length cb C ns.length cc hd :: Lf)) Sb.out)
              | (refine OPS.alloc rfl rfl rfl rfl (zero_run rfl) rfl E019 ?_
                 clear H; intro g9 w E1
                 have E119 : SH w0 [] w (bR g9 0 none 0 0 :: (bM g40 [I more] :: ((bR g7 ra X x.length cx :: bA g4 rt R rn.length cr :: bN g3 n A l.length ca B ts.length cb C ns.length cc hd :: Lf) ++ Le))) := E1
                 clear E1 E019
                 have H := E119.drop (L' := (bR g7 ra X x.length cx :: bA g4 rt R rn.length cr :: bN g3 n A l.length ca B ts.length cb C ns.length cc hd :: Lf)) Sb.out)
              | (refine OPS.alloc rfl rfl rfl rfl (zero_run rfl) rfl E016 ?_
                 clear H; intro g9 w E1
                 have E116 : SH w0 [] w (bR g9 0 none 0 0 :: (bM g40 [I more] :: ((bR g7 ra X x.length cx :: bA g4 rt R rn.length cr :: bN g3 n A l.length ca B ts.length cb C ns.length cc hd :: Lf) ++ Le))) := E1
                 clear E1 E016
                 have H := E116.drop (L' := (bR g7 ra X x.length cx :: bA g4 rt R rn.length cr :: bN g3 n A l.length ca B ts.length cb C ns.length cc hd :: Lf)) Sb.out)
              | (refine OPS.alloc rfl rfl rfl rfl (zero_run rfl) rfl E006 ?_
                 clear H; intro g9 w E1
                 have E106 : SH w0 [] w (bR g9 0 none 0 0 :: ((bR g7 ra X x.length cx :: bA g4 rt R rn.length cr :: bN g3 n A l.length ca B ts.length cb C ns.length cc hd :: Lf) ++ Le)) := E1
                 clear E1 E006
                 have H := E106.drop (L' := (bR g7 ra X x.length cx :: bA g4 rt R rn.length cr :: bN g3 n A l.length ca B ts.length cb C ns.length cc hd :: Lf)) Sb.out)
              | (refine OPS.alloc rfl rfl rfl rfl (zero_run rfl) rfl E013 ?_
                 clear H; intro g9 w E1
                 have E113 : SH w0 [] w (bR g9 0 none 0 0 :: (bM g40 [I more] :: ((bR g7 ra X x.length cx :: bA g4 rt R rn.length cr :: bN g3 n A l.length ca B ts.length cb C ns.length cc hd :: Lf) ++ [⟨g35, 3, []⟩]))) := E1
                 clear E1 E013
                 have H := E113.drop (L' := (bR g7 ra X x.length cx :: bA g4 rt R rn.length cr :: bN g3 n A l.length ca B ts.length cb C ns.length cc hd :: Lf)) Sb.out)
              | (refine OPS.alloc rfl rfl rfl rfl (zero_run rfl) rfl E003 ?_
                 clear H; intro g9 w E1
                 have E103 : SH w0 [] w (bR g9 0 none 0 0 :: ((bR g7 ra X x.length cx :: bA g4 rt R rn.length cr :: bN g3 n A l.length ca B ts.length cb C ns.length cc hd :: Lf) ++ [⟨g35, 3, []⟩])) := E1
                 clear E1 E003
                 have H := E103.drop (L' := (bR g7 ra X x.length cx :: bA g4 rt R rn.length cr :: bN g3 n A l.length ca B ts.length cb C ns.length cc hd :: Lf)) Sb.out)
              | (refine OPS.alloc rfl rfl rfl rfl (zero_run rfl) rfl E010 ?_
                 clear H; intro g9 w E1
                 have E110 : SH w0 [] w (bR g9 0 none 0 0 :: (bM g40 [I more] :: ((bR g7 ra X x.length cx :: bA g4 rt R rn.length cr :: bN g3 n A l.length ca B ts.length cb C ns.length cc hd :: Lf)))) := E1
                 clear E1 E010
                 have H := E110.drop (L' := (bR g7 ra X x.length cx :: bA g4 rt R rn.length cr :: bN g3 n A l.length ca B ts.length cb C ns.length cc hd :: Lf)) Sb.out)
              | (refine OPS.alloc rfl rfl rfl rfl (zero_run rfl) rfl (E000.toBelow hbw4) ?_
                 clear H; intro g9 w E1
                 have E100 : SH w0 [] w (bR g9 0 none 0 0 :: ((bR g7 ra X x.length cx :: bA g4 rt R rn.length cr :: bN g3 n A l.length ca B ts.length cb C ns.length cc hd :: Lf))) := E1
                 clear E1 E000
                 have H := E100.drop (L' := (bR g7 ra X x.length cx :: bA g4 rt R rn.length cr :: bN g3 n A l.length ca B ts.length cb C ns.length cc hd :: Lf)) Sb.out)
              refine OPS.nil ?_
              refine ⟨(by exact H), ?_⟩
              refine OPH.all [10] (by kernel_rfl) (by simp) rfl ?_
              intro i hi; simp only [List.mem_cons, List.not_mem_nil, or_false] at hi
              rcases hi with rfl
              · refine ⟨_, rfl, ?_⟩
                first
                | (refine OPS.call (d := some 42) rfl rfl rfl (EvC.func (fun_run rfl)) (hmk w AE ce (hz.sh E119) (ht.sh E119) (hn.sh E119) (ownS_at hOE E119 Sb.out)) ?_
                   rintro _ w ⟨eb, rb, y, Y, cy, Lm, rfl, hM, hOY, Hc⟩
                   refine ⟨_, rfl, ?_⟩
                   have E1 := SH.call (L1 := bR g9 0 none 0 0 :: ((bR g7 ra X x.length cx :: bA g4 rt R rn.length cr :: bN g3 n A l.length ca B ts.length cb C ns.length cc hd :: Lf))) (Lv := []) (by rw [List.append_nil]; exact E119.drop (List.Sublist.cons_cons _ Sb.out)) Hc
                   have E10X : SH w0 [] w (bR g9 0 none 0 0 :: ((bR g7 ra X x.length cx :: bA g4 rt R rn.length cr :: bN g3 n A l.length ca B ts.length cb C ns.length cc hd :: Lf) ++ Lm)) := E1
                   clear E1 Hc H E119
                   have H := E10X.drop (L' := (bR g7 ra X x.length cx :: bA g4 rt R rn.length cr :: bN g3 n A l.length ca B ts.length cb C ns.length cc hd :: Lf)) Sb.out)
                | (refine OPS.call (d := some 42) rfl rfl rfl (EvC.func (fun_run rfl)) (hmk w AE ce (hz.sh E019) (ht.sh E019) (hn.sh E019) (ownS_at hOE E019 Sb.out)) ?_
                   rintro _ w ⟨eb, rb, y, Y, cy, Lm, rfl, hM, hOY, Hc⟩
                   refine ⟨_, rfl, ?_⟩
                   have E1 := SH.call (L1 := (bR g7 ra X x.length cx :: bA g4 rt R rn.length cr :: bN g3 n A l.length ca B ts.length cb C ns.length cc hd :: Lf)) (Lv := []) (by rw [List.append_nil]; exact E019.drop (Sb.out)) Hc
                   have E00X : SH w0 [] w ((bR g7 ra X x.length cx :: bA g4 rt R rn.length cr :: bN g3 n A l.length ca B ts.length cb C ns.length cc hd :: Lf) ++ Lm) := E1
                   clear E1 Hc H E019
                   have H := E00X.drop (L' := (bR g7 ra X x.length cx :: bA g4 rt R rn.length cr :: bN g3 n A l.length ca B ts.length cb C ns.length cc hd :: Lf)) Sb.out)
                refine OPS.nil ?_
                refine ⟨(by exact H), ?_⟩
                refine OPH.take 11 rfl rfl rfl rfl (by kernel_rfl) (by kernel_rfl) (by kernel_rfl) rfl (by exact H) (fun w H => Ev.mvT rfl) ?_
                refine OPH.take 12 rfl rfl rfl rfl (by kernel_rfl) (by kernel_rfl) (by kernel_rfl) rfl (by exact H) (fun w H => Ev.extract rfl rfl) ?_
                refine OPH.take 13 rfl rfl rfl rfl (by kernel_rfl) (by kernel_rfl) (by kernel_rfl) rfl (by exact H) (fun w H => Ev.extract rfl rfl) ?_
                refine OPH.all [15] (by kernel_rfl) (by simp) rfl ?_
                intro i hi; simp only [List.mem_cons, List.not_mem_nil, or_false] at hi
                rcases hi with rfl
                · refine ⟨_, rfl, ?_⟩
                  refine OPS.store 0 _ rfl rfl rfl (size_run rfl) rfl (cA rfl) rfl rfl E10X rfl (by simp) ?_
                  clear H; intro w E1; clear E10X
                  simp only [List.set_cons_zero, putL] at E1
                  have H := E1.drop (L' := (bR g7 ra X x.length cx :: bA g4 rt R rn.length cr :: bN g3 n A l.length ca B ts.length cb C ns.length cc hd :: Lf)) Sb.out
                  refine OPS.nil ?_
                  refine ⟨(by exact H), ?_⟩
                  refine OPH.take 16 rfl rfl rfl rfl (by kernel_rfl) (by kernel_rfl) (by kernel_rfl) rfl (by exact H) (fun w H => Ev.asI rfl) ?_
                  refine OPH.done (by kernel_rfl) ?_
                  exact ⟨(by repeat (first | exact Agree.refl _ _ | exact Agree.mix _ _ _ | refine Agree.upd rfl ?_ | refine Agree.mix2 rfl ?_)), eb, rb, y, Y, cy, Lm, g9, rfl, rfl, hM, hOY, E1⟩
          · refine ⟨_, rfl, ?_⟩
            first
            | (refine OPS.alloc rfl rfl rfl rfl (zero_run rfl) rfl E00X ?_
               clear H; intro g9 w E1
               have E10X : SH w0 [] w (bR g9 0 none 0 0 :: ((bR g7 ra X x.length cx :: bA g4 rt R rn.length cr :: bN g3 n A l.length ca B ts.length cb C ns.length cc hd :: Lf) ++ Lm)) := E1
               clear E1 E00X
               have H := E10X.drop (L' := (bR g7 ra X x.length cx :: bA g4 rt R rn.length cr :: bN g3 n A l.length ca B ts.length cb C ns.length cc hd :: Lf)) Sb.out)
            | (refine OPS.alloc rfl rfl rfl rfl (zero_run rfl) rfl E019 ?_
               clear H; intro g9 w E1
               have E119 : SH w0 [] w (bR g9 0 none 0 0 :: (bM g40 [I more] :: ((bR g7 ra X x.length cx :: bA g4 rt R rn.length cr :: bN g3 n A l.length ca B ts.length cb C ns.length cc hd :: Lf) ++ Le))) := E1
               clear E1 E019
               have H := E119.drop (L' := (bR g7 ra X x.length cx :: bA g4 rt R rn.length cr :: bN g3 n A l.length ca B ts.length cb C ns.length cc hd :: Lf)) Sb.out)
            | (refine OPS.alloc rfl rfl rfl rfl (zero_run rfl) rfl E016 ?_
               clear H; intro g9 w E1
               have E116 : SH w0 [] w (bR g9 0 none 0 0 :: (bM g40 [I more] :: ((bR g7 ra X x.length cx :: bA g4 rt R rn.length cr :: bN g3 n A l.length ca B ts.length cb C ns.length cc hd :: Lf) ++ Le))) := E1
               clear E1 E016
               have H := E116.drop (L' := (bR g7 ra X x.length cx :: bA g4 rt R rn.length cr :: bN g3 n A l.length ca B ts.length cb C ns.length cc hd :: Lf)) Sb.out)
            | (refine OPS.alloc rfl rfl rfl rfl (zero_run rfl) rfl E006 ?_
               clear H; intro g9 w E1
               have E106 : SH w0 [] w (bR g9 0 none 0 0 :: ((bR g7 ra X x.length cx :: bA g4 rt R rn.length cr :: bN g3 n A l.length ca B ts.length cb C ns.length cc hd :: Lf) ++ Le)) := E1
               clear E1 E006
               have H := E106.drop (L' := (bR g7 ra X x.length cx :: bA g4 rt R rn.length cr :: bN g3 n A l.length ca B ts.length cb C ns.length cc hd :: Lf)) Sb.out)
            | (refine OPS.alloc rfl rfl rfl rfl (zero_run rfl) rfl E013 ?_
               clear H; intro g9 w E1
               have E113 : SH w0 [] w (bR g9 0 none 0 0 :: (bM g40 [I more] :: ((bR g7 ra X x.length cx :: bA g4 rt R rn.length cr :: bN g3 n A l.length ca B ts.length cb C ns.length cc hd :: Lf) ++ [⟨g35, 3, []⟩]))) := E1
               clear E1 E013
               have H := E113.drop (L' := (bR g7 ra X x.length cx :: bA g4 rt R rn.length cr :: bN g3 n A l.length ca B ts.length cb C ns.length cc hd :: Lf)) Sb.out)
            | (refine OPS.alloc rfl rfl rfl rfl (zero_run rfl) rfl E003 ?_
               clear H; intro g9 w E1
               have E103 : SH w0 [] w (bR g9 0 none 0 0 :: ((bR g7 ra X x.length cx :: bA g4 rt R rn.length cr :: bN g3 n A l.length ca B ts.length cb C ns.length cc hd :: Lf) ++ [⟨g35, 3, []⟩])) := E1
               clear E1 E003
               have H := E103.drop (L' := (bR g7 ra X x.length cx :: bA g4 rt R rn.length cr :: bN g3 n A l.length ca B ts.length cb C ns.length cc hd :: Lf)) Sb.out)
            | (refine OPS.alloc rfl rfl rfl rfl (zero_run rfl) rfl E010 ?_
               clear H; intro g9 w E1
               have E110 : SH w0 [] w (bR g9 0 none 0 0 :: (bM g40 [I more] :: ((bR g7 ra X x.length cx :: bA g4 rt R rn.length cr :: bN g3 n A l.length ca B ts.length cb C ns.length cc hd :: Lf)))) := E1
               clear E1 E010
               have H := E110.drop (L' := (bR g7 ra X x.length cx :: bA g4 rt R rn.length cr :: bN g3 n A l.length ca B ts.length cb C ns.length cc hd :: Lf)) Sb.out)
            | (refine OPS.alloc rfl rfl rfl rfl (zero_run rfl) rfl (E000.toBelow hbw4) ?_
               clear H; intro g9 w E1
               have E100 : SH w0 [] w (bR g9 0 none 0 0 :: ((bR g7 ra X x.length cx :: bA g4 rt R rn.length cr :: bN g3 n A l.length ca B ts.length cb C ns.length cc hd :: Lf))) := E1
               clear E1 E000
               have H := E100.drop (L' := (bR g7 ra X x.length cx :: bA g4 rt R rn.length cr :: bN g3 n A l.length ca B ts.length cb C ns.length cc hd :: Lf)) Sb.out)
            refine OPS.nil ?_
            refine ⟨(by exact H), ?_⟩
            refine OPH.all [9] (by kernel_rfl) (by simp) rfl ?_
            intro i hi; simp only [List.mem_cons, List.not_mem_nil, or_false] at hi
            rcases hi with rfl
            · refine ⟨_, rfl, ?_⟩
              first
              | (refine OPS.append (m := 1) (news := [I more]) (R := bR g9 0 none 0 0 :: (bM g40 [I more] :: ((bR g7 ra X x.length cx :: bA g4 rt R rn.length cr :: bN g3 n A l.length ca B ts.length cb C ns.length cc hd :: Lf)))) rfl rfl rfl rfl rfl (sl_run rfl) rfl rfl hOE rfl (src_own E116 1 rfl) rfl (by omega) (by unfold maxLen; omega) E116 (List.Perm.refl _) ?_
                 clear H hOE; intro AE ce Le w hOE E1
                 rw [show rn.map I ++ [I more] = (rn ++ [more]).map I by simp] at hOE
                 have E119 : SH w0 [] w (bR g9 0 none 0 0 :: (bM g40 [I more] :: ((bR g7 ra X x.length cx :: bA g4 rt R rn.length cr :: bN g3 n A l.length ca B ts.length cb C ns.length cc hd :: Lf) ++ Le))) := E1
                 clear E1 E116
                 have H := E119.drop (L' := (bR g7 ra X x.length cx :: bA g4 rt R rn.length cr :: bN g3 n A l.length ca B ts.length cb C ns.length cc hd :: Lf)) Sb.out)
              | (refine OPS.append (m := 1) (news := [I more]) (R := bM g40 [I more] :: ((bR g7 ra X x.length cx :: bA g4 rt R rn.length cr :: bN g3 n A l.length ca B ts.length cb C ns.length cc hd :: Lf))) rfl rfl rfl rfl rfl (sl_run rfl) rfl rfl hOE rfl (src_own E016 0 rfl) rfl (by omega) (by unfold maxLen; omega) E016 (List.Perm.refl _) ?_
                 clear H hOE; intro AE ce Le w hOE E1
                 rw [show rn.map I ++ [I more] = (rn ++ [more]).map I by simp] at hOE
                 have E019 : SH w0 [] w (bM g40 [I more] :: ((bR g7 ra X x.length cx :: bA g4 rt R rn.length cr :: bN g3 n A l.length ca B ts.length cb C ns.length cc hd :: Lf) ++ Le)) := E1
                 clear E1 E016
                 have H := E019.drop (L' := (bR g7 ra X x.length cx :: bA g4 rt R rn.length cr :: bN g3 n A l.length ca B ts.length cb C ns.length cc hd :: Lf)) Sb.out)
              refine OPS.nil ?_
              refine ⟨(by exact H), ?_⟩
              refine OPH.all [10] (by kernel_rfl) (by simp) rfl ?_
              intro i hi; simp only [List.mem_cons, List.not_mem_nil, or_false] at hi
              rcases hi with rfl
              · refine ⟨_, rfl, ?_⟩
                first
                | (refine OPS.call (d := some 42) rfl rfl rfl (EvC.func (fun_run rfl)) (hmk w AE ce (hz.sh E119) (ht.sh E119) (hn.sh E119) (ownS_at hOE E119 Sb.out)) ?_
                   rintro _ w ⟨eb, rb, y, Y, cy, Lm, rfl, hM, hOY, Hc⟩
                   refine ⟨_, rfl, ?_⟩
                   have E1 := SH.call (L1 := bR g9 0 none 0 0 :: ((bR g7 ra X x.length cx :: bA g4 rt R rn.length cr :: bN g3 n A l.length ca B ts.length cb C ns.length cc hd :: Lf))) (Lv := []) (by rw [List.append_nil]; exact E119.drop (List.Sublist.cons_cons _ Sb.out)) Hc
                   have E10X : SH w0 [] w (bR g9 0 none 0 0 :: ((bR g7 ra X x.length cx :: bA g4 rt R rn.length cr :: bN g3 n A l.length ca B ts.length cb C ns.length cc hd :: Lf) ++ Lm)) := E1
                   clear E1 Hc H E119
                   have H := E10X.drop (L' := (bR g7 ra X x.length cx :: bA g4 rt R rn.length cr :: bN g3 n A l.length ca B ts.length cb C ns.length cc hd :: Lf)) Sb.out)
                | (refine OPS.call (d := some 42) rfl rfl rfl (EvC.func (fun_run rfl)) (hmk w AE ce (hz.sh E019) (ht.sh E019) (hn.sh E019) (ownS_at hOE E019 Sb.out)) ?_
                   rintro _ w ⟨eb, rb, y, Y, cy, Lm, rfl, hM, hOY, Hc⟩
                   refine ⟨_, rfl, ?_⟩
                   have E1 := SH.call (L1 := (bR g7 ra X x.length cx :: bA g4 rt R rn.length cr :: bN g3 n A l.length ca B ts.length cb C ns.length cc hd :: Lf)) (Lv := []) (by rw [List.append_nil]; exact E019.drop (Sb.out)) Hc
                   have E00X : SH w0 [] w ((bR g7 ra X x.length cx :: bA g4 rt R rn.length cr :: bN g3 n A l.length ca B ts.length cb C ns.length cc hd :: Lf) ++ Lm) := E1
                   clear E1 Hc H E019
                   have H := E00X.drop (L' := (bR g7 ra X x.length cx :: bA g4 rt R rn.length cr :: bN g3 n A l.length ca B ts.length cb C ns.length cc hd :: Lf)) Sb.out)
                refine OPS.nil ?_
                refine ⟨(by exact H), ?_⟩
                refine OPH.take 11 rfl rfl rfl rfl (by kernel_rfl) (by kernel_rfl) (by kernel_rfl) rfl (by exact H) (fun w H => Ev.mvT rfl) ?_
                refine OPH.take 12 rfl rfl rfl rfl (by kernel_rfl) (by kernel_rfl) (by kernel_rfl) rfl (by exact H) (fun w H => Ev.extract rfl rfl) ?_
                refine OPH.take 13 rfl rfl rfl rfl (by kernel_rfl) (by kernel_rfl) (by kernel_rfl) rfl (by exact H) (fun w H => Ev.extract rfl rfl) ?_
                refine OPH.all [15] (by kernel_rfl) (by simp) rfl ?_
                intro i hi; simp only [List.mem_cons, List.not_mem_nil, or_false] at hi
                rcases hi with rfl
                · refine ⟨_, rfl, ?_⟩
                  refine OPS.store 0 _ rfl rfl rfl (size_run rfl) rfl (cA rfl) rfl rfl E10X rfl (by simp) ?_
                  clear H; intro w E1; clear E10X
                  simp only [List.set_cons_zero, putL] at E1
                  have H := E1.drop (L' := (bR g7 ra X x.length cx :: bA g4 rt R rn.length cr :: bN g3 n A l.length ca B ts.length cb C ns.length cc hd :: Lf)) Sb.out
                  refine OPS.nil ?_
                  refine ⟨(by exact H), ?_⟩
                  refine OPH.take 16 rfl rfl rfl rfl (by kernel_rfl) (by kernel_rfl) (by kernel_rfl) rfl (by exact H) (fun w H => Ev.asI rfl) ?_
                  refine OPH.done (by kernel_rfl) ?_
                  exact ⟨(by repeat (first | exact Agree.refl _ _ | exact Agree.mix _ _ _ | refine Agree.upd rfl ?_ | refine Agree.mix2 rfl ?_)), eb, rb, y, Y, cy, Lm, g9, rfl, rfl, hM, hOY, E1⟩
        · refine ⟨_, rfl, ?_⟩
          first
          | (refine OPS.alloc rfl rfl rfl rfl (zero_run rfl) rfl E00X ?_
             clear H; intro g9 w E1
             have E10X : SH w0 [] w (bR g9 0 none 0 0 :: ((bR g7 ra X x.length cx :: bA g4 rt R rn.length cr :: bN g3 n A l.length ca B ts.length cb C ns.length cc hd :: Lf) ++ Lm)) := E1
             clear E1 E00X
             have H := E10X.drop (L' := (bR g7 ra X x.length cx :: bA g4 rt R rn.length cr :: bN g3 n A l.length ca B ts.length cb C ns.length cc hd :: Lf)) Sb.out)
          | (refine OPS.alloc rfl rfl rfl rfl (zero_run rfl) rfl E019 ?_
             clear H; intro g9 w E1
             have E119 : SH w0 [] w (bR g9 0 none 0 0 :: (bM g40 [I more] :: ((bR g7 ra X x.length cx :: bA g4 rt R rn.length cr :: bN g3 n A l.length ca B ts.length cb C ns.length cc hd :: Lf) ++ Le))) := E1
             clear E1 E019
             have H := E119.drop (L' := (bR g7 ra X x.length cx :: bA g4 rt R rn.length cr :: bN g3 n A l.length ca B ts.length cb C ns.length cc hd :: Lf)) Sb.out)
          | (refine OPS.alloc rfl rfl rfl rfl (zero_run rfl) rfl E016 ?_
             clear H; intro g9 w E1
             have E116 : SH w0 [] w (bR g9 0 none 0 0 :: (bM g40 [I more] :: ((bR g7 ra X x.length cx :: bA g4 rt R rn.length cr :: bN g3 n A l.length ca B ts.length cb C ns.length cc hd :: Lf) ++ Le))) := E1
             clear E1 E016
             have H := E116.drop (L' := (bR g7 ra X x.length cx :: bA g4 rt R rn.length cr :: bN g3 n A l.length ca B ts.length cb C ns.length cc hd :: Lf)) Sb.out)
          | (refine OPS.alloc rfl rfl rfl rfl (zero_run rfl) rfl E006 ?_
             clear H; intro g9 w E1
             have E106 : SH w0 [] w (bR g9 0 none 0 0 :: ((bR g7 ra X x.length cx :: bA g4 rt R rn.length cr :: bN g3 n A l.length ca B ts.length cb C ns.length cc hd :: Lf) ++ Le)) := E1
             clear E1 E006
             have H := E106.drop (L' := (bR g7 ra X x.length cx :: bA g4 rt R rn.length cr :: bN g3 n A l.length ca B ts.length cb C ns.length cc hd :: Lf)) Sb.out)
          | (refine OPS.alloc rfl rfl rfl rfl (zero_run rfl) rfl E013 ?_
             clear H; intro g9 w E1
             have E113 : SH w0 [] w (bR g9 0 none 0 0 :: (bM g40 [I more] :: ((bR g7 ra X x.length cx :: bA g4 rt R rn.length cr :: bN g3 n A l.length ca B ts.length cb C ns.length cc hd :: Lf) ++ [⟨g35, 3, []⟩]))) := E1
             clear E1 E013
             have H := E113.drop (L' := (bR g7 ra X x.length cx :: bA g4 rt R rn.length cr :: bN g3 n A l.length ca B ts.length cb C ns.length cc hd :: Lf)) Sb.out)
          | (refine OPS.alloc rfl rfl rfl rfl (zero_run rfl) rfl E003 ?_
             clear H; intro g9 w E1
             have E103 : SH w0 [] w (bR g9 0 none 0 0 :: ((bR g7 ra X x.length cx :: bA g4 rt R rn.length cr :: bN g3 n A l.length ca B ts.length cb C ns.length cc hd :: Lf) ++ [⟨g35, 3, []⟩])) := E1
             clear E1 E003
             have H := E103.drop (L' := (bR g7 ra X x.length cx :: bA g4 rt R rn.length cr :: bN g3 n A l.length ca B ts.length cb C ns.length cc hd :: Lf)) Sb.out)
          | (refine OPS.alloc rfl rfl rfl rfl (zero_run rfl) rfl E010 ?_
             clear H; intro g9 w E1
             have E110 : SH w0 [] w (bR g9 0 none 0 0 :: (bM g40 [I more] :: ((bR g7 ra X x.length cx :: bA g4 rt R rn.length cr :: bN g3 n A l.length ca B ts.length cb C ns.length cc hd :: Lf)))) := E1
             clear E1 E010
             have H := E110.drop (L' := (bR g7 ra X x.length cx :: bA g4 rt R rn.length cr :: bN g3 n A l.length ca B ts.length cb C ns.length cc hd :: Lf)) Sb.out)
          | (refine OPS.alloc rfl rfl rfl rfl (zero_run rfl) rfl (E000.toBelow hbw4) ?_
             clear H; intro g9 w E1
             have E100 : SH w0 [] w (bR g9 0 none 0 0 :: ((bR g7 ra X x.length cx :: bA g4 rt R rn.length cr :: bN g3 n A l.length ca B ts.length cb C ns.length cc hd :: Lf))) := E1
             clear E1 E000
             have H := E100.drop (L' := (bR g7 ra X x.length cx :: bA g4 rt R rn.length cr :: bN g3 n A l.length ca B ts.length cb C ns.length cc hd :: Lf)) Sb.out)
          refine OPS.nil ?_
          refine ⟨(by exact H), ?_⟩
          refine OPH.all [8] (by kernel_rfl) (by simp) rfl ?_
          intro i hi; simp only [List.mem_cons, List.not_mem_nil, or_false] at hi
          rcases hi with rfl
          · refine ⟨_, rfl, ?_⟩
            first
            | (refine OPS.buildSlice rfl rfl rfl rfl (bsl_29_1_0 rfl) E106 ?_
               clear H; intro g40 w E1
               have E116 : SH w0 [] w (bR g9 0 none 0 0 :: (bM g40 [I more] :: ((bR g7 ra X x.length cx :: bA g4 rt R rn.length cr :: bN g3 n A l.length ca B ts.length cb C ns.length cc hd :: Lf) ++ Le))) := E1.perm (List.Perm.swap _ _ _)
               clear E1 E106
               have H := E116.drop (L' := (bR g7 ra X x.length cx :: bA g4 rt R rn.length cr :: bN g3 n A l.length ca B ts.length cb C ns.length cc hd :: Lf)) Sb.out)
            | (refine OPS.buildSlice rfl rfl rfl rfl (bsl_29_1_0 rfl) E103 ?_
               clear H; intro g40 w E1
               have E113 : SH w0 [] w (bR g9 0 none 0 0 :: (bM g40 [I more] :: ((bR g7 ra X x.length cx :: bA g4 rt R rn.length cr :: bN g3 n A l.length ca B ts.length cb C ns.length cc hd :: Lf) ++ [⟨g35, 3, []⟩]))) := E1.perm (List.Perm.swap _ _ _)
               clear E1 E103
               have H := E113.drop (L' := (bR g7 ra X x.length cx :: bA g4 rt R rn.length cr :: bN g3 n A l.length ca B ts.length cb C ns.length cc hd :: Lf)) Sb.out)
            | (refine OPS.buildSlice rfl rfl rfl rfl (bsl_29_1_0 rfl) E100 ?_
               clear H; intro g40 w E1
               have E110 : SH w0 [] w (bR g9 0 none 0 0 :: (bM g40 [I more] :: ((bR g7 ra X x.length cx :: bA g4 rt R rn.length cr :: bN g3 n A l.length ca B ts.length cb C ns.length cc hd :: Lf)))) := E1.perm (List.Perm.swap _ _ _)
               clear E1 E100
               have H := E110.drop (L' := (bR g7 ra X x.length cx :: bA g4 rt R rn.length cr :: bN g3 n A l.length ca B ts.length cb C ns.length cc hd :: Lf)) Sb.out)
            | (refine OPS.buildSlice rfl rfl rfl rfl (bsl_29_1_0 rfl) E006 ?_
               clear H; intro g40 w E1
               have E016 : SH w0 [] w (bM g40 [I more] :: ((bR g7 ra X x.length cx :: bA g4 rt R rn.length cr :: bN g3 n A l.length ca B ts.length cb C ns.length cc hd :: Lf) ++ Le)) := E1
               clear E1 E006
               have H := E016.drop (L' := (bR g7 ra X x.length cx :: bA g4 rt R rn.length cr :: bN g3 n A l.length ca B ts.length cb C ns.length cc hd :: Lf)) Sb.out)
            | (refine OPS.buildSlice rfl rfl rfl rfl (bsl_29_1_0 rfl) E003 ?_
               clear H; intro g40 w E1
               have E013 : SH w0 [] w (bM g40 [I more] :: ((bR g7 ra X x.length cx :: bA g4 rt R rn.length cr :: bN g3 n A l.length ca B ts.length cb C ns.length cc hd :: Lf) ++ [⟨g35, 3, []⟩])) := E1
               clear E1 E003
               have H := E013.drop (L' := (bR g7 ra X x.length cx :: bA g4 rt R rn.length cr :: bN g3 n A l.length ca B ts.length cb C ns.length cc hd :: Lf)) Sb.out)
            | (refine OPS.buildSlice rfl rfl rfl rfl (bsl_29_1_0 rfl) (E000.toBelow hbw4) ?_
               clear H; intro g40 w E1
               have E010 : SH w0 [] w (bM g40 [I more] :: ((bR g7 ra X x.length cx :: bA g4 rt R rn.length cr :: bN g3 n A l.length ca B ts.length cb C ns.length cc hd :: Lf))) := E1
               clear E1 E000
               have H := E010.drop (L' := (bR g7 ra X x.length cx :: bA g4 rt R rn.length cr :: bN g3 n A l.length ca B ts.length cb C ns.length cc hd :: Lf)) Sb.out)
            refine OPS.nil ?_
            refine ⟨(by exact H), ?_⟩
            refine OPH.all [9] (by kernel_rfl) (by simp) rfl ?_
            intro i hi; simp only [List.mem_cons, List.not_mem_nil, or_false] at hi
            rcases hi with rfl
            · refine ⟨_, rfl, ?_⟩
              first
              | (refine OPS.append (m := 1) (news := [I more]) (R := bR g9 0 none 0 0 :: (bM g40 [I more] :: ((bR g7 ra X x.length cx :: bA g4 rt R rn.length cr :: bN g3 n A l.length ca B ts.length cb C ns.length cc hd :: Lf)))) rfl rfl rfl rfl rfl (sl_run rfl) rfl rfl hOE rfl (src_own E116 1 rfl) rfl (by omega) (by unfold maxLen; omega) E116 (List.Perm.refl _) ?_
                 clear H hOE; intro AE ce Le w hOE E1
                 rw [show rn.map I ++ [I more] = (rn ++ [more]).map I by simp] at hOE
                 have E119 : SH w0 [] w (bR g9 0 none 0 0 :: (bM g40 [I more] :: ((bR g7 ra X x.length cx :: bA g4 rt R rn.length cr :: bN g3 n A l.length ca B ts.length cb C ns.length cc hd :: Lf) ++ Le))) := E1
                 clear E1 E116
                 have H := E119.drop (L' := (bR g7 ra X x.length cx :: bA g4 rt R rn.length cr :: bN g3 n A l.length ca B ts.length cb C ns.length cc hd :: Lf)) Sb.out)
              | (refine OPS.append (m := 1) (news := [I more]) (R := bM g40 [I more] :: ((bR g7 ra X x.length cx :: bA g4 rt R rn.length cr :: bN g3 n A l.length ca B ts.length cb C ns.length cc hd :: Lf))) rfl rfl rfl rfl rfl (sl_run rfl) rfl rfl hOE rfl (src_own E016 0 rfl) rfl (by omega) (by unfold maxLen; omega) E016 (List.Perm.refl _) ?_
                 clear H hOE; intro AE ce Le w hOE E1
                 rw [show rn.map I ++ [I more] = (rn ++ [more]).map I by simp] at hOE
                 have E019 : SH w0 [] w (bM g40 [I more] :: ((bR g7 ra X x.length cx :: bA g4 rt R rn.length cr :: bN g3 n A l.length ca B ts.length cb C ns.length cc hd :: Lf) ++ Le)) := E1
                 clear E1 E016
                 have H := E019.drop (L' := (bR g7 ra X x.length cx :: bA g4 rt R rn.length cr :: bN g3 n A l.length ca B ts.length cb C ns.length cc hd :: Lf)) Sb.out)
              refine OPS.nil ?_
              refine ⟨(by exact H), ?_⟩
              refine OPH.all [10] (by kernel_rfl) (by simp) rfl ?_
              intro i hi; simp only [List.mem_cons, List.not_mem_nil, or_false] at hi
              rcases hi with rfl
              · refine ⟨_, rfl, ?_⟩
                first
                | (refine OPS.call (d := some 42) rfl rfl rfl (EvC.func (fun_run rfl)) (hmk w AE ce (hz.sh E119) (ht.sh E119) (hn.sh E119) (ownS_at hOE E119 Sb.out)) ?_
                   rintro _ w ⟨eb, rb, y, Y, cy, Lm, rfl, hM, hOY, Hc⟩
                   refine ⟨_, rfl, ?_⟩
                   have E1 := SH.call (L1 := bR g9 0 none 0 0 :: ((bR g7 ra X x.length cx :: bA g4 rt R rn.length cr :: bN g3 n A l.length ca B ts.length cb C ns.length cc hd :: Lf))) (Lv := []) (by rw [List.append_nil]; exact E119.drop (List.Sublist.cons_cons _ Sb.out)) Hc
                   have E10X : SH w0 [] w (bR g9 0 none 0 0 :: ((bR g7 ra X x.length cx :: bA g4 rt R rn.length cr :: bN g3 n A l.length ca B ts.length cb C ns.length cc hd :: Lf) ++ Lm)) := E1
                   clear E1 Hc H E119
                   have H := E10X.drop (L' := (bR g7 ra X x.length cx :: bA g4 rt R rn.length cr :: bN g3 n A l.length ca B ts.length cb C ns.length cc hd :: Lf)) Sb.out)
                | (refine OPS.call (d := some 42) rfl rfl rfl (EvC.func (fun_run rfl)) (hmk w AE ce (hz.sh E019) (ht.sh E019) (hn.sh E019) (ownS_at hOE E019 Sb.out)) ?_
                   rintro _ w ⟨eb, rb, y, Y, cy, Lm, rfl, hM, hOY, Hc⟩
                   refine ⟨_, rfl, ?_⟩
                   have E1 := SH.call (L1 := (bR g7 ra X x.length cx :: bA g4 rt R rn.length cr :: bN g3 n A l.length ca B ts.length cb C ns.length cc hd :: Lf)) (Lv := []) (by rw [List.append_nil]; exact E019.drop (Sb.out)) Hc
                   have E00X : SH w0 [] w ((bR g7 ra X x.length cx :: bA g4 rt R rn.length cr :: bN g3 n A l.length ca B ts.length cb C ns.length cc hd :: Lf) ++ Lm) := E1
                   clear E1 Hc H E019
                   have H := E00X.drop (L' := (bR g7 ra X x.length cx :: bA g4 rt R rn.length cr :: bN g3 n A l.length ca B ts.length cb C ns.length cc hd :: Lf)) Sb.out)
                refine OPS.nil ?_
                refine ⟨(by exact H), ?_⟩
                refine OPH.take 11 rfl rfl rfl rfl (by kernel_rfl) (by kernel_rfl) (by kernel_rfl) rfl (by exact H) (fun w H => Ev.mvT rfl) ?_
                refine OPH.take 12 rfl rfl rfl rfl (by kernel_rfl) (by kernel_rfl) (by kernel_rfl) rfl (by exact H) (fun w H => Ev.extract rfl rfl) ?_
                refine OPH.take 13 rfl rfl rfl rfl (by kernel_rfl) (by kernel_rfl) (by kernel_rfl) rfl (by exact H) (fun w H => Ev.extract rfl rfl) ?_
                refine OPH.all [15] (by kernel_rfl) (by simp) rfl ?_
                intro i hi; simp only [List.mem_cons, List.not_mem_nil, or_false] at hi
                rcases hi with rfl
                · refine ⟨_, rfl, ?_⟩
                  refine OPS.store 0 _ rfl rfl rfl (size_run rfl) rfl (cA rfl) rfl rfl E10X rfl (by simp) ?_
                  clear H; intro w E1; clear E10X
                  simp only [List.set_cons_zero, putL] at E1
                  have H := E1.drop (L' := (bR g7 ra X x.length cx :: bA g4 rt R rn.length cr :: bN g3 n A l.length ca B ts.length cb C ns.length cc hd :: Lf)) Sb.out
                  refine OPS.nil ?_
                  refine ⟨(by exact H), ?_⟩
                  refine OPH.take 16 rfl rfl rfl rfl (by kernel_rfl) (by kernel_rfl) (by kernel_rfl) rfl (by exact H) (fun w H => Ev.asI rfl) ?_
                  refine OPH.done (by kernel_rfl) ?_
                  exact ⟨(by repeat (first | exact Agree.refl _ _ | exact Agree.mix _ _ _ | refine Agree.upd rfl ?_ | refine Agree.mix2 rfl ?_)), eb, rb, y, Y, cy, Lm, g9, rfl, rfl, hM, hOY, E1⟩
      · refine ⟨_, rfl, ?_⟩
        first
        | (refine OPS.buildSlice rfl rfl rfl rfl (bsl_29_1_0 rfl) E106 ?_
           clear H; intro g40 w E1
           have E116 : SH w0 [] w (bR g9 0 none 0 0 :: (bM g40 [I more] :: ((bR g7 ra X x.length cx :: bA g4 rt R rn.length cr :: bN g3 n A l.length ca B ts.length cb C ns.length cc hd :: Lf) ++ Le))) := E1.perm (List.Perm.swap _ _ _)
           clear E1 E106
           have H := E116.drop (L' := (bR g7 ra X x.length cx :: bA g4 rt R rn.length cr :: bN g3 n A l.length ca B ts.length cb C ns.length cc hd :: Lf)) Sb.out)
        | (refine OPS.buildSlice rfl rfl rfl rfl (bsl_29_1_0 rfl) E103 ?_
           clear H; intro g40 w E1
           have E113 : SH w0 [] w (bR g9 0 none 0 0 :: (bM g40 [I more] :: ((bR g7 ra X x.length cx :: bA g4 rt R rn.length cr :: bN g3 n A l.length ca B ts.length cb C ns.length cc hd :: Lf) ++ [⟨g35, 3, []⟩]))) := E1.perm (List.Perm.swap _ _ _)
           clear E1 E103
           have H := E113.drop (L' := (bR g7 ra X x.length cx :: bA g4 rt R rn.length cr :: bN g3 n A l.length ca B ts.length cb C ns.length cc hd :: Lf)) Sb.out)
        | (refine OPS.buildSlice rfl rfl rfl rfl (bsl_29_1_0 rfl) E100 ?_
           clear H; intro g40 w E1
           have E110 : SH w0 [] w (bR g9 0 none 0 0 :: (bM g40 [I more] :: ((bR g7 ra X x.length cx :: bA g4 rt R rn.length cr :: bN g3 n A l.length ca B ts.length cb C ns.length cc hd :: Lf)))) := E1.perm (List.Perm.swap _ _ _)
           clear E1 E100
           have H := E110.drop (L' := (bR g7 ra X x.length cx :: bA g4 rt R rn.length cr :: bN g3 n A l.length ca B ts.length cb C ns.length cc hd :: Lf)) Sb.out)
        | (refine OPS.buildSlice rfl rfl rfl rfl (bsl_29_1_0 rfl) E006 ?_
           clear H; intro g40 w E1
           have E016 : SH w0 [] w (bM g40 [I more] :: ((bR g7 ra X x.length cx :: bA g4 rt R rn.length cr :: bN g3 n A l.length ca B ts.length cb C ns.length cc hd :: Lf) ++ Le)) := E1
           clear E1 E006
           have H := E016.drop (L' := (bR g7 ra X x.length cx :: bA g4 rt R rn.length cr :: bN g3 n A l.length ca B ts.length cb C ns.length cc hd :: Lf)) Sb.out)
        | (refine OPS.buildSlice rfl rfl rfl rfl (bsl_29_1_0 rfl) E003 ?_
           clear H; intro g40 w E1
           have E013 : SH w0 [] w (bM g40 [I more] :: ((bR g7 ra X x.length cx :: bA g4 rt R rn.length cr :: bN g3 n A l.length ca B ts.length cb C ns.length cc hd :: Lf) ++ [⟨g35, 3, []⟩])) := E1
           clear E1 E003
           have H := E013.drop (L' := (bR g7 ra X x.length cx :: bA g4 rt R rn.length cr :: bN g3 n A l.length ca B ts.length cb C ns.length cc hd :: Lf)) Sb.out)
        | (refine OPS.buildSlice rfl rfl rfl rfl (bsl_29_1_0 rfl) (E000.toBelow hbw4) ?_
           clear H; intro g40 w E1
           have E010 : SH w0 [] w (bM g40 [I more] :: ((bR g7 ra X x.length cx :: bA g4 rt R rn.length cr :: bN g3 n A l.length ca B ts.length cb C ns.length cc hd :: Lf))) := E1
           clear E1 E000
           have H := E010.drop (L' := (bR g7 ra X x.length cx :: bA g4 rt R rn.length cr :: bN g3 n A l.length ca B ts.length cb C ns.length cc hd :: Lf)) Sb.out)
        refine OPS.nil ?_
        refine ⟨(by exact H), ?_⟩
        refine OPH.all [6, 14] (by kernel_rfl) (by simp) rfl ?_
        intro i hi; simp only [List.mem_cons, List.not_mem_nil, or_false] at hi
        rcases hi with rfl | rfl
        · refine ⟨_, rfl, ?_⟩
          first
          | (refine OPS.appendE (m := rn.length) (news := rn.map I) (R := bR g9 0 none 0 0 :: (bM g40 [I more] :: ((bR g7 ra X x.length cx :: bA g4 rt R rn.length cr :: bN g3 n A l.length ca B ts.length cb C ns.length cc hd :: Lf)))) rfl rfl rfl rfl rfl (sl_run rfl) rfl rfl (OwnS.mt (g := g35)) (by simp) (intsFrom (hr.sh E113)) (intsOne rn) (by omega) (by unfold maxLen; omega) E113 (List.Perm.refl _) ?_
             clear H; intro AE ce Le w hOE E1
             have E116 : SH w0 [] w (bR g9 0 none 0 0 :: (bM g40 [I more] :: ((bR g7 ra X x.length cx :: bA g4 rt R rn.length cr :: bN g3 n A l.length ca B ts.length cb C ns.length cc hd :: Lf) ++ Le))) := E1
             clear E1 E113
             rw [Nat.zero_add, List.nil_append] at hOE
             rw [show 0 + rn.length = rn.length from Nat.zero_add _]
             have H := E116.drop (L' := (bR g7 ra X x.length cx :: bA g4 rt R rn.length cr :: bN g3 n A l.length ca B ts.length cb C ns.length cc hd :: Lf)) Sb.out)
          | (refine OPS.appendE (m := rn.length) (news := rn.map I) (R := bR g9 0 none 0 0 :: ((bR g7 ra X x.length cx :: bA g4 rt R rn.length cr :: bN g3 n A l.length ca B ts.length cb C ns.length cc hd :: Lf))) rfl rfl rfl rfl rfl (sl_run rfl) rfl rfl (OwnS.mt (g := g35)) (by simp) (intsFrom (hr.sh E103)) (intsOne rn) (by omega) (by unfold maxLen; omega) E103 (List.Perm.refl _) ?_
             clear H; intro AE ce Le w hOE E1
             have E106 : SH w0 [] w (bR g9 0 none 0 0 :: ((bR g7 ra X x.length cx :: bA g4 rt R rn.length cr :: bN g3 n A l.length ca B ts.length cb C ns.length cc hd :: Lf) ++ Le)) := E1
             clear E1 E103
             rw [Nat.zero_add, List.nil_append] at hOE
             rw [show 0 + rn.length = rn.length from Nat.zero_add _]
             have H := E106.drop (L' := (bR g7 ra X x.length cx :: bA g4 rt R rn.length cr :: bN g3 n A l.length ca B ts.length cb C ns.length cc hd :: Lf)) Sb.out)
          | (refine OPS.appendE (m := rn.length) (news := rn.map I) (R := bM g40 [I more] :: ((bR g7 ra X x.length cx :: bA g4 rt R rn.length cr :: bN g3 n A l.length ca B ts.length cb C ns.length cc hd :: Lf))) rfl rfl rfl rfl rfl (sl_run rfl) rfl rfl (OwnS.mt (g := g35)) (by simp) (intsFrom (hr.sh E013)) (intsOne rn) (by omega) (by unfold maxLen; omega) E013 (List.Perm.refl _) ?_
             clear H; intro AE ce Le w hOE E1
             have E016 : SH w0 [] w (bM g40 [I more] :: ((bR g7 ra X x.length cx :: bA g4 rt R rn.length cr :: bN g3 n A l.length ca B ts.length cb C ns.length cc hd :: Lf) ++ Le)) := E1
             clear E1 E013
             rw [Nat.zero_add, List.nil_append] at hOE
             rw [show 0 + rn.length = rn.length from Nat.zero_add _]
             have H := E016.drop (L' := (bR g7 ra X x.length cx :: bA g4 rt R rn.length cr :: bN g3 n A l.length ca B ts.length cb C ns.length cc hd :: Lf)) Sb.out)
          | (refine OPS.appendE (m := rn.length) (news := rn.map I) (R := (bR g7 ra X x.length cx :: bA g4 rt R rn.length cr :: bN g3 n A l.length ca B ts.length cb C ns.length cc hd :: Lf)) rfl rfl rfl rfl rfl (sl_run rfl) rfl rfl (OwnS.mt (g := g35)) (by simp) (intsFrom (hr.sh E003)) (intsOne rn) (by omega) (by unfold maxLen; omega) E003 (List.Perm.refl _) ?_
             clear H; intro AE ce Le w hOE E1
             have E006 : SH w0 [] w ((bR g7 ra X x.length cx :: bA g4 rt R rn.length cr :: bN g3 n A l.length ca B ts.length cb C ns.length cc hd :: Lf) ++ Le) := E1
             clear E1 E003
             rw [Nat.zero_add, List.nil_append] at hOE
             rw [show 0 + rn.length = rn.length from Nat.zero_add _]
             have H := E006.drop (L' := (bR g7 ra X x.length cx :: bA g4 rt R rn.length cr :: bN g3 n A l.length ca B ts.length cb C ns.length cc hd :: Lf)) Sb.out)
          refine OPS.nil ?_
          refine ⟨(by exact H), ?_⟩
          refine OPH.all [9, 14] (by kernel_rfl) (by simp) rfl ?_
          intro i hi; simp only [List.mem_cons, List.not_mem_nil, or_false] at hi
          rcases hi with rfl | rfl
          · refine ⟨_, rfl, ?_⟩
            first
            | (refine OPS.append (m := 1) (news := [I more]) (R := bR g9 0 none 0 0 :: (bM g40 [I more] :: ((bR g7 ra X x.length cx :: bA g4 rt R rn.length cr :: bN g3 n A l.length ca B ts.length cb C ns.length cc hd :: Lf)))) rfl rfl rfl rfl rfl (sl_run rfl) rfl rfl hOE rfl (src_own E116 1 rfl) rfl (by omega) (by unfold maxLen; omega) E116 (List.Perm.refl _) ?_
               clear H hOE; intro AE ce Le w hOE E1
               rw [show rn.map I ++ [I more] = (rn ++ [more]).map I by simp] at hOE
               have E119 : SH w0 [] w (bR g9 0 none 0 0 :: (bM g40 [I more] :: ((bR g7 ra X x.length cx :: bA g4 rt R rn.length cr :: bN g3 n A l.length ca B ts.length cb C ns.length cc hd :: Lf) ++ Le))) := E1
               clear E1 E116
               have H := E119.drop (L' := (bR g7 ra X x.length cx :: bA g4 rt R rn.length cr :: bN g3 n A l.length ca B ts.length cb C ns.length cc hd :: Lf)) Sb.out)
            | (refine OPS.append (m := 1) (news := [I more]) (R := bM g40 [I more] :: ((bR g7 ra X x.length cx :: bA g4 rt R rn.length cr :: bN g3 n A l.length ca B ts.length cb C ns.length cc hd :: Lf))) rfl rfl rfl rfl rfl (sl_run rfl) rfl rfl hOE rfl (src_own E016 0 rfl) rfl (by omega) (by unfold maxLen; omega) E016 (List.Perm.refl _) ?_
               clear H hOE; intro AE ce Le w hOE E1
               rw [show rn.map I ++ [I more] = (rn ++ [more]).map I by simp] at hOE
               have E019 : SH w0 [] w (bM g40 [I more] :: ((bR g7 ra X x.length cx :: bA g4 rt R rn.length cr :: bN g3 n A l.length ca B ts.length cb C ns.length cc hd :: Lf) ++ Le)) := E1
               clear E1 E016
               have H := E019.drop (L' := (bR g7 ra X x.length cx :: bA g4 rt R rn.length cr :: bN g3 n A l.length ca B ts.length cb C ns.length cc hd :: Lf)) Sb.out)
            refine OPS.nil ?_
            refine ⟨(by exact H), ?_⟩
            refine OPH.all [10, 14] (by kernel_rfl) (by simp) rfl ?_
            intro i hi; simp only [List.mem_cons, List.not_mem_nil, or_false] at hi
            rcases hi with rfl | rfl
            · refine ⟨_, rfl, ?_⟩
              first
              | (refine OPS.call (d := some 42) rfl rfl rfl (EvC.func (fun_run rfl)) (hmk w AE ce (hz.sh E119) (ht.sh E119) (hn.sh E119) (ownS_at hOE E119 Sb.out)) ?_
                 rintro _ w ⟨eb, rb, y, Y, cy, Lm, rfl, hM, hOY, Hc⟩
                 refine ⟨_, rfl, ?_⟩
                 have E1 := SH.call (L1 := bR g9 0 none 0 0 :: ((bR g7 ra X x.length cx :: bA g4 rt R rn.length cr :: bN g3 n A l.length ca B ts.length cb C ns.length cc hd :: Lf))) (Lv := []) (by rw [List.append_nil]; exact E119.drop (List.Sublist.cons_cons _ Sb.out)) Hc
                 have E10X : SH w0 [] w (bR g9 0 none 0 0 :: ((bR g7 ra X x.length cx :: bA g4 rt R rn.length cr :: bN g3 n A l.length ca B ts.length cb C ns.length cc hd :: Lf) ++ Lm)) := E1
                 clear E1 Hc H E119
                 have H := E10X.drop (L' := (bR g7 ra X x.length cx :: bA g4 rt R rn.length cr :: bN g3 n A l.length ca B ts.length cb C ns.length cc hd :: Lf)) Sb.out)
              | (refine OPS.call (d := some 42) rfl rfl rfl (EvC.func (fun_run rfl)) (hmk w AE ce (hz.sh E019) (ht.sh E019) (hn.sh E019) (ownS_at hOE E019 Sb.out)) ?_
                 rintro _ w ⟨eb, rb, y, Y, cy, Lm, rfl, hM, hOY, Hc⟩
                 refine ⟨_, rfl, ?_⟩
                 have E1 := SH.call (L1 := (bR g7 ra X x.length cx :: bA g4 rt R rn.length cr :: bN g3 n A l.length ca B ts.length cb C ns.length cc hd :: Lf)) (Lv := []) (by rw [List.append_nil]; exact E019.drop (Sb.out)) Hc
                 have E00X : SH w0 [] w ((bR g7 ra X x.length cx :: bA g4 rt R rn.length cr :: bN g3 n A l.length ca B ts.length cb C ns.length cc hd :: Lf) ++ Lm) := E1
                 clear E1 Hc H E019
                 have H := E00X.drop (L' := (bR g7 ra X x.length cx :: bA g4 rt R rn.length cr :: bN g3 n A l.length ca B ts.length cb C ns.length cc hd :: Lf)) Sb.out)
              refine OPS.nil ?_
              refine ⟨(by exact H), ?_⟩
              refine OPH.take 11 rfl rfl rfl rfl (by kernel_rfl) (by kernel_rfl) (by kernel_rfl) rfl (by exact H) (fun w H => Ev.mvT rfl) ?_
              refine OPH.take 12 rfl rfl rfl rfl (by kernel_rfl) (by kernel_rfl) (by kernel_rfl) rfl (by exact H) (fun w H => Ev.extract rfl rfl) ?_
              refine OPH.take 13 rfl rfl rfl rfl (by kernel_rfl) (by kernel_rfl) (by kernel_rfl) rfl (by exact H) (fun w H => Ev.extract rfl rfl) ?_
              refine OPH.all [14] (by kernel_rfl) (by simp) rfl ?_
              intro i hi; simp only [List.mem_cons, List.not_mem_nil, or_false] at hi
              rcases hi with rfl
              · refine ⟨_, rfl, ?_⟩
                first
                | (refine OPS.alloc rfl rfl rfl rfl (zero_run rfl) rfl E00X ?_
                   clear H; intro g9 w E1
                   have E10X : SH w0 [] w (bR g9 0 none 0 0 :: ((bR g7 ra X x.length cx :: bA g4 rt R rn.length cr :: bN g3 n A l.length ca B ts.length cb C ns.length cc hd :: Lf) ++ Lm)) := E1
                   clear E1 E00X
                   have H := E10X.drop (L' := (bR g7 ra X x.length cx :: bA g4 rt R rn.length cr :: bN g3 n A l.length ca B ts.length cb C ns.length cc hd :: Lf)) Sb.out)
                | (refine OPS.alloc rfl rfl rfl rfl (zero_run rfl) rfl E019 ?_
                   clear H; intro g9 w E1
                   have E119 : SH w0 [] w (bR g9 0 none 0 0 :: (bM g40 [I more] :: ((bR g7 ra X x.length cx :: bA g4 rt R rn.length cr :: bN g3 n A l.length ca B ts.length cb C ns.length cc hd :: Lf) ++ Le))) := E1
                   clear E1 E019
                   have H := E119.drop (L' := (bR g7 ra X x.length cx :: bA g4 rt R rn.length cr :: bN g3 n A l.length ca B ts.length cb C ns.length cc hd :: Lf)) Sb.out)
                | (refine OPS.alloc rfl rfl rfl rfl (zero_run rfl) rfl E016 ?_
                   clear H; intro g9 w E1
                   have E116 : SH w0 [] w (bR g9 0 none 0 0 :: (bM g40 [I more] :: ((bR g7 ra X x.length cx :: bA g4 rt R rn.length cr :: bN g3 n A l.length ca B ts.length cb C ns.length cc hd :: Lf) ++ Le))) := E1
                   clear E1 E016
                   have H := E116.drop (L' := (bR g7 ra X x.length cx :: bA g4 rt R rn.length cr :: bN g3 n A l.length ca B ts.length cb C ns.length cc hd :: Lf)) Sb.out)
                | (refine OPS.alloc rfl rfl rfl rfl (zero_run rfl) rfl E006 ?_
                   clear H; intro g9 w E1
                   have E106 : SH w0 [] w (bR g9 0 none 0 0 :: ((bR g7 ra X x.length cx :: bA g4 rt R rn.length cr :: bN g3 n A l.length ca B ts.length cb C ns.length cc hd :: Lf) ++ Le)) := E1
                   clear E1 E006
                   have H := E106.drop (L' := (bR g7 ra X x.length cx :: bA g4 rt R rn.length cr :: bN g3 n A l.length ca B ts.length cb C ns.length cc hd :: Lf)) Sb.out)
                | (refine OPS.alloc rfl rfl rfl rfl (zero_run rfl) rfl E013 ?_
                   clear H; intro g9 w E1
                   have E113 : SH w0 [] w (bR g9 0 none 0 0 :: (bM g40 [I more] :: ((bR g7 ra X x.length cx :: bA g4 rt R rn.length cr :: bN g3 n A l.length ca B ts.length cb C ns.length cc hd :: Lf) ++ [⟨g35, 3, []⟩]))) := E1
                   clear E1 E013
                   have H := E113.drop (L' := (bR g7 ra X x.length cx :: bA g4 rt R rn.length cr :: bN g3 n A l.length ca B ts.length cb C ns.length cc hd :: Lf)) Sb.out)
                | (refine OPS.alloc rfl rfl rfl rfl (zero_run rfl) rfl E003 ?_
                   clear H; intro g9 w E1
                   have E103 : SH w0 [] w (bR g9 0 none 0 0 :: ((bR g7 ra X x.length cx :: bA g4 rt R rn.length cr :: bN g3 n A l.length ca B ts.length cb C ns.length cc hd :: Lf) ++ [⟨g35, 3, []⟩])) := E1
                   clear E1 E003
                   have H := E103.drop (L' := (bR g7 ra X x.length cx :: bA g4 rt R rn.length cr :: bN g3 n A l.length ca B ts.length cb C ns.length cc hd :: Lf)) Sb.out)
                | (refine OPS.alloc rfl rfl rfl rfl (zero_run rfl) rfl E010 ?_
                   clear H; intro g9 w E1
                   have E110 : SH w0 [] w (bR g9 0 none 0 0 :: (bM g40 [I more] :: ((bR g7 ra X x.length cx :: bA g4 rt R rn.length cr :: bN g3 n A l.length ca B ts.length cb C ns.length cc hd :: Lf)))) := E1
                   clear E1 E010
                   have H := E110.drop (L' := (bR g7 ra X x.length cx :: bA g4 rt R rn.length cr :: bN g3 n A l.length ca B ts.length cb C ns.length cc hd :: Lf)) Sb.out)
                | (refine OPS.alloc rfl rfl rfl rfl (zero_run rfl) rfl (E000.toBelow hbw4) ?_
                   clear H; intro g9 w E1
                   have E100 : SH w0 [] w (bR g9 0 none 0 0 :: ((bR g7 ra X x.length cx :: bA g4 rt R rn.length cr :: bN g3 n A l.length ca B ts.length cb C ns.length cc hd :: Lf))) := E1
                   clear E1 E000
                   have H := E100.drop (L' := (bR g7 ra X x.length cx :: bA g4 rt R rn.length cr :: bN g3 n A l.length ca B ts.length cb C ns.length cc hd :: Lf)) Sb.out)
                refine OPS.nil ?_
                refine ⟨(by exact H), ?_⟩
                refine OPH.all [15] (by kernel_rfl) (by simp) rfl ?_
                intro i hi; simp only [List.mem_cons, List.not_mem_nil, or_false] at hi
                rcases hi with rfl
                · refine ⟨_, rfl, ?_⟩
                  refine OPS.store 0 _ rfl rfl rfl (size_run rfl) rfl (cA rfl) rfl rfl E10X rfl (by simp) ?_
                  clear H; intro w E1; clear E10X
                  simp only [List.set_cons_zero, putL] at E1
                  have H := E1.drop (L' := (bR g7 ra X x.length cx :: bA g4 rt R rn.length cr :: bN g3 n A l.length ca B ts.length cb C ns.length cc hd :: Lf)) Sb.out
                  refine OPS.nil ?_
                  refine ⟨(by exact H), ?_⟩
                  refine OPH.take 16 rfl rfl rfl rfl (by kernel_rfl) (by kernel_rfl) (by kernel_rfl) rfl (by exact H) (fun w H => Ev.asI rfl) ?_
                  refine OPH.done (by kernel_rfl) ?_
                  exact ⟨(by repeat (first | exact Agree.refl _ _ | exact Agree.mix _ _ _ | refine Agree.upd rfl ?_ | refine Agree.mix2 rfl ?_)), eb, rb, y, Y, cy, Lm, g9, rfl, rfl, hM, hOY, E1⟩
            · refine ⟨_, rfl, ?_⟩
              first
              | (refine OPS.alloc rfl rfl rfl rfl (zero_run rfl) rfl E00X ?_
                 clear H; intro g9 w E1
                 have E10X : SH w0 [] w (bR g9 0 none 0 0 :: ((bR g7 ra X x.length cx :: bA g4 rt R rn.length cr :: bN g3 n A l.length ca B ts.length cb C ns.length cc hd :: Lf) ++ Lm)) := E1
                 clear E1 E00X
                 have H := E10X.drop (L' := (bR g7 ra X x.length cx :: bA g4 rt R rn.length cr :: bN g3 n A l.length ca B ts.length cb C ns.length cc hd :: Lf)) Sb.out)
              | (refine OPS.alloc rfl rfl rfl rfl (zero_run rfl) rfl E019 ?_
                 clear H; intro g9 w E1
                 have E119 : SH w0 [] w (bR g9 0 none 0 0 :: (bM g40 [I more] :: ((bR g7 ra X x.length cx :: bA g4 rt R rn.length cr :: bN g3 n A l.length ca B ts.length cb C ns.length cc hd :: Lf) ++ Le))) := E1
                 clear E1 E019
                 have H := E119.drop (L' := (bR g7 ra X x.length cx :: bA g4 rt R rn.length cr :: bN g3 n A l.length ca B ts.length cb C ns.length cc hd :: Lf)) Sb.out)
              | (refine OPS.alloc rfl rfl rfl rfl (zero_run rfl) rfl E016 ?_
                 clear H; intro g9 w E1
                 have E116 : SH w0 [] w (bR g9 0 none 0 0 :: (bM g40 [I more] :: ((bR g7 ra X x.length cx :: bA g4 rt R rn.length cr :: bN g3 n A l.length ca B ts.length cb C ns.length cc hd :: Lf) ++ Le))) := E1
                 clear E1 E016
                 have H := E116.drop (L' := (bR g7 ra X x.length cx :: bA g4 rt R rn.length cr :: bN g3 n A l.length ca B ts.length cb C ns.length cc hd :: Lf)) Sb.out)
              | (refine OPS.alloc rfl rfl rfl rfl (zero_run rfl) rfl E006 ?_
                 clear H; intro g9 w E1
                 have E106 : SH w0 [] w (bR g9 0 none 0 0 :: ((bR g7 ra X x.length cx :: bA g4 rt R rn.length cr :: bN g3 n A l.length ca B ts.length cb C ns.length cc hd :: Lf) ++ Le)) := E1
                 clear E1 E006
                 have H := E106.drop (L' := (bR g7 ra X x.length cx :: bA g4 rt R rn.length cr :: bN g3 n A l.length ca B ts.length cb C ns.length cc hd :: Lf)) Sb.out)
              | (refine OPS.alloc rfl rfl rfl rfl (zero_run rfl) rfl E013 ?_
                 clear H; intro g9 w E1
                 have E113 : SH w0 [] w (bR g9 0 none 0 0 :: (bM g40 [I more] :: ((bR g7 ra X x.length cx :: bA g4 rt R rn.length cr :: bN g3 n A l.length ca B ts.length cb C ns.length cc hd :: Lf) ++ [⟨g35, 3, []⟩]))) := E1
                 clear E1 E013
                 have H := E113.drop (L' := (bR g7 ra X x.length cx :: bA g4 rt R rn.length cr :: bN g3 n A l.length ca B ts.length cb C ns.length cc hd :: Lf)) Sb.out)
              | (refine OPS.alloc rfl rfl rfl rfl (zero_run rfl) rfl E003 ?_
                 clear H; intro g9 w E1
                 have E103 : SH w0 [] w (bR g9 0 none 0 0 :: ((bR g7 ra X x.length cx :: bA g4 rt R rn.length cr :: bN g3 n A l.length ca B ts.length cb C ns.length cc hd :: Lf) ++ [⟨g35, 3, []⟩])) := E1
                 clear E1 E003
                 have H := E103.drop (L' := (bR g7 ra X x.length cx :: bA g4 rt R rn.length cr :: bN g3 n A l.length ca B ts.length cb C ns.length cc hd :: Lf)) Sb.out)
              | (refine OPS.alloc rfl rfl rfl rfl (zero_run rfl) rfl E010 ?_
                 clear H; intro g9 w E1
                 have E110 : SH w0 [] w (bR g9 0 none 0 0 :: (bM g40 [I more] :: ((bR g7 ra X x.length cx :: bA g4 rt R rn.length cr :: bN g3 n A l.length ca B ts.length cb C ns.length cc hd :: Lf)))) := E1
                 clear E1 E010
                 have H := E110.drop (L' := (bR g7 ra X x.length cx :: bA g4 rt R rn.length cr :: bN g3 n A l.length ca B ts.length cb C ns.length cc hd :: Lf)) Sb.out)
              | (refine OPS.alloc rfl rfl rfl rfl (zero_run rfl) rfl (E000.toBelow hbw4) ?_
                 clear H; intro g9 w E1
                 have E100 : SH w0 [] w (bR g9 0 none 0 0 :: ((bR g7 ra X x.length cx :: bA g4 rt R rn.length cr :: bN g3 n A l.length ca B ts.length cb C ns.length cc hd :: Lf))) := E1
                 clear E1 E000
                 have H := E100.drop (L' := (bR g7 ra X x.length cx :: bA g4 rt R rn.length cr :: bN g3 n A l.length ca B ts.length cb C ns.length cc hd :: Lf)) Sb.out)
              refine OPS.nil ?_
              refine ⟨(by exact H), ?_⟩
              refine OPH.all [10] (by kernel_rfl) (by simp) rfl ?_
              intro i hi; simp only [List.mem_cons, List.not_mem_nil, or_false] at hi
              rcases hi with rfl
              · refine ⟨_, rfl, ?_⟩
                first
                | (refine OPS.call (d := some 42) rfl rfl rfl (EvC.func (fun_run rfl)) (hmk w AE ce (hz.sh E119) (ht.sh E119) (hn.sh E119) (ownS_at hOE E119 Sb.out)) ?_
                   rintro _ w ⟨eb, rb, y, Y, cy, Lm, rfl, hM, hOY, Hc⟩
                   refine ⟨_, rfl, ?_⟩
                   have E1 := SH.call (L1 := bR g9 0 none 0 0 :: ((bR g7 ra X x.length cx :: bA g4 rt R rn.length cr :: bN g3 n A l.length ca B ts.length cb C ns.length cc hd :: Lf))) (Lv := []) (by rw [List.append_nil]; exact E119.drop (List.Sublist.cons_cons _ Sb.out)) Hc
                   have E10X : SH w0 [] w (bR g9 0 none 0 0 :: ((bR g7 ra X x.length cx :: bA g4 rt R rn.length cr :: bN g3 n A l.length ca B ts.length cb C ns.length cc hd :: Lf) ++ Lm)) := E1
                   clear E1 Hc H E119
                   have H := E10X.drop (L' := (bR g7 ra X x.length cx :: bA g4 rt R rn.length cr :: bN g3 n A l.length ca B ts.length cb C ns.length cc hd :: Lf)) Sb.out)
                | (refine OPS.call (d := some 42) rfl rfl rfl (EvC.func (fun_run rfl)) (hmk w AE ce (hz.sh E019) (ht.sh E019) (hn.sh E019) (ownS_at hOE E019 Sb.out)) ?_
                   rintro _ w ⟨eb, rb, y, Y, cy, Lm, rfl, hM, hOY, Hc⟩
                   refine ⟨_, rfl, ?_⟩
                   have E1 := SH.call (L1 := (bR g7 ra X x.length cx :: bA g4 rt R rn.length cr :: bN g3 n A l.length ca B ts.length cb C ns.length cc hd :: Lf)) (Lv := []) (by rw [List.append_nil]; exact E019.drop (Sb.out)) Hc
                   have E00X : SH w0 [] w ((bR g7 ra X x.length cx :: bA g4 rt R rn.length cr :: bN g3 n A l.length ca B ts.length cb C ns.length cc hd :: Lf) ++ Lm) := E1
                   clear E1 Hc H E019
                   have H := E00X.drop (L' := (bR g7 ra X x.length cx :: bA g4 rt R rn.length cr :: bN g3 n A l.length ca B ts.length cb C ns.length cc hd :: Lf)) Sb.out)
                refine OPS.nil ?_
                refine ⟨(by exact H), ?_⟩
                refine OPH.take 11 rfl rfl rfl rfl (by kernel_rfl) (by kernel_rfl) (by kernel_rfl) rfl (by exact H) (fun w H => Ev.mvT rfl) ?_
                refine OPH.take 12 rfl rfl rfl rfl (by kernel_rfl) (by kernel_rfl) (by kernel_rfl) rfl (by exact H) (fun w H => Ev.extract rfl rfl) ?_
                refine OPH.take 13 rfl rfl rfl rfl (by kernel_rfl) (by kernel_rfl) (by kernel_rfl) rfl (by exact H) (fun w H => Ev.extract rfl rfl) ?_
                refine OPH.all [15] (by kernel_rfl) (by simp) rfl ?_
                intro i hi; simp only [List.mem_cons, List.not_mem_nil, or_false] at hi
                rcases hi with rfl
                · refine ⟨_, rfl, ?_⟩
                  refine OPS.store 0 _ rfl rfl rfl (size_run rfl) rfl (cA rfl) rfl rfl E10X rfl (by simp) ?_
                  clear H; intro w E1; clear E10X
                  simp only [List.set_cons_zero, putL] at E1
                  have H := E1.drop (L' := (bR g7 ra X x.length cx :: bA g4 rt R rn.length cr :: bN g3 n A l.length ca B ts.length cb C ns.length cc hd :: Lf)) Sb.out
                  refine OPS.nil ?_
                  refine ⟨(by exact H), ?_⟩
                  refine OPH.take 16 rfl rfl rfl rfl (by kernel_rfl) (by kernel_rfl) (by kernel_rfl) rfl (by exact H) (fun w H => Ev.asI rfl) ?_
                  refine OPH.done (by kernel_rfl) ?_
                  exact ⟨(by repeat (first | exact Agree.refl _ _ | exact Agree.mix _ _ _ | refine Agree.upd rfl ?_ | refine Agree.mix2 rfl ?_)), eb, rb, y, Y, cy, Lm, g9, rfl, rfl, hM, hOY, E1⟩
          · refine ⟨_, rfl, ?_⟩
            first
            | (refine OPS.alloc rfl rfl rfl rfl (zero_run rfl) rfl E00X ?_
               clear H; intro g9 w E1
               have E10X : SH w0 [] w (bR g9 0 none 0 0 :: ((bR g7 ra X x.length cx :: bA g4 rt R rn.length cr :: bN g3 n A l.length ca B ts.length cb C ns.length cc hd :: Lf) ++ Lm)) := E1
               clear E1 E00X
               have H := E10X.drop (L' := (bR g7 ra X x.length cx :: bA g4 rt R rn.length cr :: bN g3 n A l.length ca B ts.length cb C ns.length cc hd :: Lf)) Sb.out)
            | (refine OPS.alloc rfl rfl rfl rfl (zero_run rfl) rfl E019 ?_
               clear H; intro g9 w E1
               have E119 : SH w0 [] w (bR g9 0 none 0 0 :: (bM g40 [I more] :: ((bR g7 ra X x.length cx :: bA g4 rt R rn.length cr :: bN g3 n A l.length ca B ts.length cb C ns.length cc hd :: Lf) ++ Le))) := E1
               clear E1 E019
               have H := E119.drop (L' := (bR g7 ra X x.length cx :: bA g4 rt R rn.length cr :: bN g3 n A l.length ca B ts.length cb C ns.length cc hd :: Lf)) Sb.out)
            | (refine OPS.alloc rfl rfl rfl rfl (zero_run rfl) rfl E016 ?_
               clear H; intro g9 w E1
               have E116 : SH w0 [] w (bR g9 0 none 0 0 :: (bM g40 [I more] :: ((bR g7 ra X x.length cx :: bA g4 rt R rn.length cr :: bN g3 n A l.length ca B ts.length cb C ns.length cc hd :: Lf) ++ Le))) := E1
               clear E1 E016
               have H := E116.drop (L' := (bR g7 ra X x.length cx :: bA g4 rt R rn.length cr :: bN g3 n A l.length ca B ts.length cb C ns.length cc hd :: Lf)) Sb.out)
            | (refine OPS.alloc rfl rfl rfl rfl (zero_run rfl) rfl E006 ?_
               clear H; intro g9 w E1
               have E106 : SH w0 [] w (bR g9 0 none 0 0 :: ((bR g7 ra X x.length cx :: bA g4 rt R rn.length cr :: bN g3 n A l.length ca B ts.length cb C ns.length cc hd :: Lf) ++ Le)) := E1
               clear E1 E006
               have H := E106.drop (L' := (bR g7 ra X x.length cx :: bA g4 rt R rn.length cr :: bN g3 n A l.length ca B ts.length cb C ns.length cc hd :: Lf)) Sb.out)
            | (refine OPS.alloc rfl rfl rfl rfl (zero_run rfl) rfl E013 ?_
               clear H; intro g9 w E1
               have E113 : SH w0 [] w (bR g9 0 none 0 0 :: (bM g40 [I more] :: ((bR g7 ra X x.length cx :: bA g4 rt R rn.length cr :: bN g3 n A l.length ca B ts.length cb C ns.length cc hd :: Lf) ++ [⟨g35, 3, []⟩]))) := E1
               clear E1 E013
               have H := E113.drop (L' := (bR g7 ra X x.length cx :: bA g4 rt R rn.length cr :: bN g3 n A l.length ca B ts.length cb C ns.length cc hd :: Lf)) Sb.out)
            | (refine OPS.alloc rfl rfl rfl rfl (zero_run rfl) rfl E003 ?_
               clear H; intro g9 w E1
               have E103 : SH w0 [] w (bR g9 0 none 0 0 :: ((bR g7 ra X x.length cx :: bA g4 rt R rn.length cr :: bN g3 n A l.length ca B ts.length cb C ns.length cc hd :: Lf) ++ [⟨g35, 3, []⟩])) := E1
               clear E1 E003
               have H := E103.drop (L' := (bR g7 ra X x.length cx :: bA g4 rt R rn.length cr :: bN g3 n A l.length ca B ts.length cb C ns.length cc hd :: Lf)) Sb.out)
            | (refine OPS.alloc rfl rfl rfl rfl (zero_run rfl) rfl E010 ?_
               clear H; intro g9 w E1
               have E110 : SH w0 [] w (bR g9 0 none 0 0 :: (bM g40 [I more] :: ((bR g7 ra X x.length cx :: bA g4 rt R rn.length cr :: bN g3 n A l.length ca B ts.length cb C ns.length cc hd :: Lf)))) := E1
               clear E1 E010
               have H := E110.drop (L' := (bR g7 ra X x.length cx :: bA g4 rt R rn.length cr :: bN g3 n A l.length ca B ts.length cb C ns.length cc hd :: Lf)) Sb.out)
            | (refine OPS.alloc rfl rfl rfl rfl (zero_run rfl) rfl (E000.toBelow hbw4) ?_
               clear H; intro g9 w E1
               have E100 : SH w0 [] w (bR g9 0 none 0 0 :: ((bR g7 ra X x.length cx :: bA g4 rt R rn.length cr :: bN g3 n A l.length ca B ts.length cb C ns.length cc hd :: Lf))) := E1
               clear E1 E000
               have H := E100.drop (L' := (bR g7 ra X x.length cx :: bA g4 rt R rn.length cr :: bN g3 n A l.length ca B ts.length cb C ns.length cc hd :: Lf)) Sb.out)
            refine OPS.nil ?_
            refine ⟨(by exact H), ?_⟩
            refine OPH.all [9] (by kernel_rfl) (by simp) rfl ?_
            intro i hi; simp only [List.mem_cons, List.not_mem_nil, or_false] at hi
            rcases hi with rfl
            · refine ⟨_, rfl, ?_⟩
              first
              | (refine OPS.append (m := 1) (news := [I more]) (R := bR g9 0 none 0 0 :: (bM g40 [I more] :: ((bR g7 ra X x.length cx :: bA g4 rt R rn.length cr :: bN g3 n A l.length ca B ts.length cb C ns.length cc hd :: Lf)))) rfl rfl rfl rfl rfl (sl_run rfl) rfl rfl hOE rfl (src_own E116 1 rfl) rfl (by omega) (by unfold maxLen; omega) E116 (List.Perm.refl _) ?_
                 clear H hOE; intro AE ce Le w hOE E1
                 rw [show rn.map I ++ [I more] = (rn ++ [more]).map I by simp] at hOE
                 have E119 : SH w0 [] w (bR g9 0 none 0 0 :: (bM g40 [I more] :: ((bR g7 ra X x.length cx :: bA g4 rt R rn.length cr :: bN g3 n A l.length ca B ts.length cb C ns.length cc hd :: Lf) ++ Le))) := E1
                 clear E1 E116
                 have H := E119.drop (L' := (bR g7 ra X x.length cx :: bA g4 rt R rn.length cr :: bN g3 n A l.length ca B ts.length cb C ns.length cc hd :: Lf)) Sb.out)
              | (refine OPS.append (m := 1) (news := [I more]) (R := bM g40 [I more] :: ((bR g7 ra X x.length cx :: bA g4 rt R rn.length cr :: bN g3 n A l.length ca B ts.length cb C ns.length cc hd :: Lf))) rfl rfl rfl rfl rfl (sl_run rfl) rfl rfl hOE rfl (src_own E016 0 rfl) rfl (by omega) (by unfold maxLen; omega) E016 (List.Perm.refl _) ?_
                 clear H hOE; intro AE ce Le w hOE E1
                 rw [show rn.map I ++ [I more] = (rn ++ [more]).map I by simp] at hOE
                 have E019 : SH w0 [] w (bM g40 [I more] :: ((bR g7 ra X x.length cx :: bA g4 rt R rn.length cr :: bN g3 n A l.length ca B ts.length cb C ns.length cc hd :: Lf) ++ Le)) := E1
                 clear E1 E016
                 have H := E019.drop (L' := (bR g7 ra X x.length cx :: bA g4 rt R rn.length cr :: bN g3 n A l.length ca B ts.length cb C ns.length cc hd :: Lf)) Sb.out)
              refine OPS.nil ?_
              refine ⟨(by exact H), ?_⟩
              refine OPH.all [10] (by kernel_rfl) (by simp) rfl ?_
              intro i hi; simp only [List.mem_cons, List.not_mem_nil, or_false] at hi
              rcases hi with rfl
              · refine ⟨_, rfl, ?_⟩
                first
                | (refine OPS.call (d := some 42) rfl rfl rfl (EvC.func (fun_run rfl)) (hmk w AE ce (hz.sh E119) (ht.sh E119) (hn.sh E119) (ownS_at hOE E119 Sb.out)) ?_
                   rintro _ w ⟨eb, rb, y, Y, cy, Lm, rfl, hM, hOY, Hc⟩
                   refine ⟨_, rfl, ?_⟩
                   have E1 := SH.call (L1 := bR g9 0 none 0 0 :: ((bR g7 ra X x.length cx :: bA g4 rt R rn.length cr :: bN g3 n A l.length ca B ts.length cb C ns.length cc hd :: Lf))) (Lv := []) (by rw [List.append_nil]; exact E119.drop (List.Sublist.cons_cons _ Sb.out)) Hc
                   have E10X : SH w0 [] w (bR g9 0 none 0 0 :: ((bR g7 ra X x.length cx :: bA g4 rt R rn.length cr :: bN g3 n A l.length ca B ts.length cb C ns.length cc hd :: Lf) ++ Lm)) := E1
                   clear E1 Hc H E119
                   have H := E10X.drop (L' := (bR g7 ra X x.length cx :: bA g4 rt R rn.length cr :: bN g3 n A l.length ca B ts.length cb C ns.length cc hd :: Lf)) Sb.out)
                | (refine OPS.call (d := some 42) rfl rfl rfl (EvC.func (fun_run rfl)) (hmk w AE ce (hz.sh E019) (ht.sh E019) (hn.sh E019) (ownS_at hOE E019 Sb.out)) ?_
                   rintro _ w ⟨eb, rb, y, Y, cy, Lm, rfl, hM, hOY, Hc⟩
                   refine ⟨_, rfl, ?_⟩
                   have E1 := SH.call (L1 := (bR g7 ra X x.length cx :: bA g4 rt R rn.length cr :: bN g3 n A l.length ca B ts.length cb C ns.length cc hd :: Lf)) (Lv := []) (by rw [List.append_nil]; exact E019.drop (Sb.out)) Hc
                   have E00X : SH w0 [] w ((bR g7 ra X x.length cx :: bA g4 rt R rn.length cr :: bN g3 n A l.length ca B ts.length cb C ns.length cc hd :: Lf) ++ Lm) := E1
                   clear E1 Hc H E019
                   have H := E00X.drop (L' := (bR g7 ra X x.length cx :: bA g4 rt R rn.length cr :: bN g3 n A l.length ca B ts.length cb C ns.length cc hd :: Lf)) Sb.out)
                refine OPS.nil ?_
                refine ⟨(by exact H), ?_⟩
                refine OPH.take 11 rfl rfl rfl rfl (by kernel_rfl) (by kernel_rfl) (by kernel_rfl) rfl (by exact H) (fun w H => Ev.mvT rfl) ?_
                refine OPH.take 12 rfl rfl rfl rfl (by kernel_rfl) (by kernel_rfl) (by kernel_rfl) rfl (by exact H) (fun w H => Ev.extract rfl rfl) ?_
                refine OPH.take 13 rfl rfl rfl rfl (by kernel_rfl) (by kernel_rfl) (by kernel_rfl) rfl (by exact H) (fun w H => Ev.extract rfl rfl) ?_
                refine OPH.all [15] (by kernel_rfl) (by simp) rfl ?_
                intro i hi; simp only [List.mem_cons, List.not_mem_nil, or_false] at hi
                rcases hi with rfl
                · refine ⟨_, rfl, ?_⟩
                  refine OPS.store 0 _ rfl rfl rfl (size_run rfl) rfl (cA rfl) rfl rfl E10X rfl (by simp) ?_
                  clear H; intro w E1; clear E10X
                  simp only [List.set_cons_zero, putL] at E1
                  have H := E1.drop (L' := (bR g7 ra X x.length cx :: bA g4 rt R rn.length cr :: bN g3 n A l.length ca B ts.length cb C ns.length cc hd :: Lf)) Sb.out
                  refine OPS.nil ?_
                  refine ⟨(by exact H), ?_⟩
                  refine OPH.take 16 rfl rfl rfl rfl (by kernel_rfl) (by kernel_rfl) (by kernel_rfl) rfl (by exact H) (fun w H => Ev.asI rfl) ?_
                  refine OPH.done (by kernel_rfl) ?_
                  exact ⟨(by repeat (first | exact Agree.refl _ _ | exact Agree.mix _ _ _ | refine Agree.upd rfl ?_ | refine Agree.mix2 rfl ?_)), eb, rb, y, Y, cy, Lm, g9, rfl, rfl, hM, hOY, E1⟩
        · refine ⟨_, rfl, ?_⟩
          first
          | (refine OPS.alloc rfl rfl rfl rfl (zero_run rfl) rfl E00X ?_
             clear H; intro g9 w E1
             have E10X : SH w0 [] w (bR g9 0 none 0 0 :: ((bR g7 ra X x.length cx :: bA g4 rt R rn.length cr :: bN g3 n A l.length ca B ts.length cb C ns.length cc hd :: Lf) ++ Lm)) := E1
             clear E1 E00X
             have H := E10X.drop (L' := (bR g7 ra X x.length cx :: bA g4 rt R rn.length cr :: bN g3 n A l.length ca B ts.length cb C ns.length cc hd :: Lf)) Sb.out)
          | (refine OPS.alloc rfl rfl rfl rfl (zero_run rfl) rfl E019 ?_
             clear H; intro g9 w E1
             have E119 : SH w0 [] w (bR g9 0 none 0 0 :: (bM g40 [I more] :: ((bR g7 ra X x.length cx :: bA g4 rt R rn.length cr :: bN g3 n A l.length ca B ts.length cb C ns.length cc hd :: Lf) ++ Le))) := E1
             clear E1 E019
             have H := E119.drop (L' := (bR g7 ra X x.length cx :: bA g4 rt R rn.length cr :: bN g3 n A l.length ca B ts.length cb C ns.length cc hd :: Lf)) Sb.out)
          | (refine OPS.alloc rfl rfl rfl rfl (zero_run rfl) rfl E016 ?_
             clear H; intro g9 w E1
             have E116 : SH w0 [] w (bR g9 0 none 0 0 :: (bM g40 [I more] :: ((bR g7 ra X x.length cx :: bA g4 rt R rn.length cr :: bN g3 n A l.length ca B ts.length cb C ns.length cc hd :: Lf) ++ Le))) := E1
             clear E1 E016
             have H := E116.drop (L' := (bR g7 ra X x.length cx :: bA g4 rt R rn.length cr :: bN g3 n A l.length ca B ts.length cb C ns.length cc hd :: Lf)) Sb.out)
          | (refine OPS.alloc rfl rfl rfl rfl (zero_run rfl) rfl E006 ?_
             clear H; intro g9 w E1
             have E106 : SH w0 [] w (bR g9 0 none 0 0 :: ((bR g7 ra X x.length cx :: bA g4 rt R rn.length cr :: bN g3 n A l.length ca B ts.length cb C ns.length cc hd :: Lf) ++ Le)) := E1
             clear E1 E006
             have H := E106.drop (L' := (bR g7 ra X x.length cx :: bA g4 rt R rn.length cr :: bN g3 n A l.length ca B ts.length cb C ns.length cc hd :: Lf)) Sb.out)
          | (refine OPS.alloc rfl rfl rfl rfl (zero_run rfl) rfl E013 ?_
             clear H; intro g9 w E1
             have E113 : SH w0 [] w (bR g9 0 none 0 0 :: (bM g40 [I more] :: ((bR g7 ra X x.length cx :: bA g4 rt R rn.length cr :: bN g3 n A l.length ca B ts.length cb C ns.length cc hd :: Lf) ++ [⟨g35, 3, []⟩]))) := E1
             clear E1 E013
             have H := E113.drop (L' := (bR g7 ra X x.length cx :: bA g4 rt R rn.length cr :: bN g3 n A l.length ca B ts.length cb C ns.length cc hd :: Lf)) Sb.out)
          | (refine OPS.alloc rfl rfl rfl rfl (zero_run rfl) rfl E003 ?_
             clear H; intro g9 w E1
             have E103 : SH w0 [] w (bR g9 0 none 0 0 :: ((bR g7 ra X x.length cx :: bA g4 rt R rn.length cr :: bN g3 n A l.length ca B ts.length cb C ns.length cc hd :: Lf) ++ [⟨g35, 3, []⟩])) := E1
             clear E1 E003
             have H := E103.drop (L' := (bR g7 ra X x.length cx :: bA g4 rt R rn.length cr :: bN g3 n A l.length ca B ts.length cb C ns.length cc hd :: Lf)) Sb.out)
          | (refine OPS.alloc rfl rfl rfl rfl (zero_run rfl) rfl E010 ?_
             clear H; intro g9 w E1
             have E110 : SH w0 [] w (bR g9 0 none 0 0 :: (bM g40 [I more] :: ((bR g7 ra X x.length cx :: bA g4 rt R rn.length cr :: bN g3 n A l.length ca B ts.length cb C ns.length cc hd :: Lf)))) := E1
             clear E1 E010
             have H := E110.drop (L' := (bR g7 ra X x.length cx :: bA g4 rt R rn.length cr :: bN g3 n A l.length ca B ts.length cb C ns.length cc hd :: Lf)) Sb.out)
          | (refine OPS.alloc rfl rfl rfl rfl (zero_run rfl) rfl (E000.toBelow hbw4) ?_
             clear H; intro g9 w E1
             have E100 : SH w0 [] w (bR g9 0 none 0 0 :: ((bR g7 ra X x.length cx :: bA g4 rt R rn.length cr :: bN g3 n A l.length ca B ts.length cb C ns.length cc hd :: Lf))) := E1
             clear E1 E000
             have H := E100.drop (L' := (bR g7 ra X x.length cx :: bA g4 rt R rn.length cr :: bN g3 n A l.length ca B ts.length cb C ns.length cc hd :: Lf)) Sb.out)
          refine OPS.nil ?_
          refine ⟨(by exact H), ?_⟩
          refine OPH.all [6] (by kernel_rfl) (by simp) rfl ?_
          intro i hi; simp only [List.mem_cons, List.not_mem_nil, or_false] at hi
          rcases hi with rfl
          · refine ⟨_, rfl, ?_⟩
            first
            | (refine OPS.appendE (m := rn.length) (news := rn.map I) (R := bR g9 0 none 0 0 :: (bM g40 [I more] :: ((bR g7 ra X x.length cx :: bA g4 rt R rn.length cr :: bN g3 n A l.length ca B ts.length cb C ns.length cc hd :: Lf)))) rfl rfl rfl rfl rfl (sl_run rfl) rfl rfl (OwnS.mt (g := g35)) (by simp) (intsFrom (hr.sh E113)) (intsOne rn) (by omega) (by unfold maxLen; omega) E113 (List.Perm.refl _) ?_
               clear H; intro AE ce Le w hOE E1
               have E116 : SH w0 [] w (bR g9 0 none 0 0 :: (bM g40 [I more] :: ((bR g7 ra X x.length cx :: bA g4 rt R rn.length cr :: bN g3 n A l.length ca B ts.length cb C ns.length cc hd :: Lf) ++ Le))) := E1
               clear E1 E113
               rw [Nat.zero_add, List.nil_append] at hOE
               rw [show 0 + rn.length = rn.length from Nat.zero_add _]
               have H := E116.drop (L' := (bR g7 ra X x.length cx :: bA g4 rt R rn.length cr :: bN g3 n A l.length ca B ts.length cb C ns.length cc hd :: Lf)) Sb.out)
            | (refine OPS.appendE (m := rn.length) (news := rn.map I) (R := bR g9 0 none 0 0 :: ((bR g7 ra X x.length cx :: bA g4 rt R rn.length cr :: bN g3 n A l.length ca B ts.length cb C ns.length cc hd :: Lf))) rfl rfl rfl rfl rfl (sl_run rfl) rfl rfl (OwnS.mt (g := g35)) (by simp) (intsFrom (hr.sh E103)) (intsOne rn) (by omega) (by unfold maxLen; omega) E103 (List.Perm.refl _) ?_
               clear H; intro AE ce Le w hOE E1
               have E106 : SH w0 [] w (bR g9 0 none 0 0 :: ((bR g7 ra X x.length cx :: bA g4 rt R rn.length cr :: bN g3 n A l.length ca B ts.length cb C ns.length cc hd :: Lf) ++ Le)) := E1
               clear E1 E103
               rw [Nat.zero_add, List.nil_append] at hOE
               rw [show 0 + rn.length = rn.length from Nat.zero_add _]
               have H := E106.drop (L' := (bR g7 ra X x.length cx :: bA g4 rt R rn.length cr :: bN g3 n A l.length ca B ts.length cb C ns.length cc hd :: Lf)) Sb.out)
            | (refine OPS.appendE (m := rn.length) (news := rn.map I) (R := bM g40 [I more] :: ((bR g7 ra X x.length cx :: bA g4 rt R rn.length cr :: bN g3 n A l.length ca B ts.length cb C ns.length cc hd :: Lf))) rfl rfl rfl rfl rfl (sl_run rfl) rfl rfl (OwnS.mt (g := g35)) (by simp) (intsFrom (hr.sh E013)) (intsOne rn) (by omega) (by unfold maxLen; omega) E013 (List.Perm.refl _) ?_
               clear H; intro AE ce Le w hOE E1
               have E016 : SH w0 [] w (bM g40 [I more] :: ((bR g7 ra X x.length cx :: bA g4 rt R rn.length cr :: bN g3 n A l.length ca B ts.length cb C ns.length cc hd :: Lf) ++ Le)) := E1
               clear E1 E013
               rw [Nat.zero_add, List.nil_append] at hOE
               rw [show 0 + rn.length = rn.length from Nat.zero_add _]
               have H := E016.drop (L' := (bR g7 ra X x.length cx :: bA g4 rt R rn.length cr :: bN g3 n A l.length ca B ts.length cb C ns.length cc hd :: Lf)) Sb.out)
            | (refine OPS.appendE (m := rn.length) (news := rn.map I) (R := (bR g7 ra X x.length cx :: bA g4 rt R rn.length cr :: bN g3 n A l.length ca B ts.length cb C ns.length cc hd :: Lf)) rfl rfl rfl rfl rfl (sl_run rfl) rfl rfl (OwnS.mt (g := g35)) (by simp) (intsFrom (hr.sh E003)) (intsOne rn) (by omega) (by unfold maxLen; omega) E003 (List.Perm.refl _) ?_
               clear H; intro AE ce Le w hOE E1
               have E006 : SH w0 [] w ((bR g7 ra X x.length cx :: bA g4 rt R rn.length cr :: bN g3 n A l.length ca B ts.length cb C ns.length cc hd :: Lf) ++ Le) := E1
               clear E1 E003
               rw [Nat.zero_add, List.nil_append] at hOE
               rw [show 0 + rn.length = rn.length from Nat.zero_add _]
               have H := E006.drop (L' := (bR g7 ra X x.length cx :: bA g4 rt R rn.length cr :: bN g3 n A l.length ca B ts.length cb C ns.length cc hd :: Lf)) Sb.out)
            refine OPS.nil ?_
            refine ⟨(by exact H), ?_⟩
            refine OPH.all [9] (by kernel_rfl) (by simp) rfl ?_
            intro i hi; simp only [List.mem_cons, List.not_mem_nil, or_false] at hi
            rcases hi with rfl
            · refine ⟨_, rfl, ?_⟩
              first
              | (refine OPS.append (m := 1) (news := [I more]) (R := bR g9 0 none 0 0 :: (bM g40 [I more] :: ((bR g7 ra X x.length cx :: bA g4 rt R rn.length cr :: bN g3 n A l.length ca B ts.length cb C ns.length cc hd :: Lf)))) rfl rfl rfl rfl rfl (sl_run rfl) rfl rfl hOE rfl (src_own E116 1 rfl) rfl (by omega) (by unfold maxLen; omega) E116 (List.Perm.refl _) ?_
                 clear H hOE; intro AE ce Le w hOE E1
                 rw [show rn.map I ++ [I more] = (rn ++ [more]).map I by simp] at hOE
                 have E119 : SH w0 [] w (bR g9 0 none 0 0 :: (bM g40 [I more] :: ((bR g7 ra X x.length cx :: bA g4 rt R rn.length cr :: bN g3 n A l.length ca B ts.length cb C ns.length cc hd :: Lf) ++ Le))) := E1
                 clear E1 E116
                 have H := E119.drop (L' := (bR g7 ra X x.length cx :: bA g4 rt R rn.length cr :: bN g3 n A l.length ca B ts.length cb C ns.length cc hd :: Lf)) Sb.out)
              | (refine OPS.append (m := 1) (news := [I more]) (R := bM g40 [I more] :: ((bR g7 ra X x.length cx :: bA g4 rt R rn.length cr :: bN g3 n A l.length ca B ts.length cb C ns.length cc hd :: Lf))) rfl rfl rfl rfl rfl (sl_run rfl) rfl rfl hOE rfl (src_own E016 0 rfl) rfl (by omega) (by unfold maxLen; omega) E016 (List.Perm.refl _) ?_
                 clear H hOE; intro AE ce Le w hOE E1
                 rw [show rn.map I ++ [I more] = (rn ++ [more]).map I by simp] at hOE
                 have E019 : SH w0 [] w (bM g40 [I more] :: ((bR g7 ra X x.length cx :: bA g4 rt R rn.length cr :: bN g3 n A l.length ca B ts.length cb C ns.length cc hd :: Lf) ++ Le)) := E1
                 clear E1 E016
                 have H := E019.drop (L' := (bR g7 ra X x.length cx :: bA g4 rt R rn.length cr :: bN g3 n A l.length ca B ts.length cb C ns.length cc hd :: Lf)) Sb.out)
              refine OPS.nil ?_
              refine ⟨(by exact H), ?_⟩
              refine OPH.all [10] (by kernel_rfl) (by simp) rfl ?_
              intro i hi; simp only [List.mem_cons, List.not_mem_nil, or_false] at hi
              rcases hi with rfl
              · refine ⟨_, rfl, ?_⟩
                first
                | (refine OPS.call (d := some 42) rfl rfl rfl (EvC.func (fun_run rfl)) (hmk w AE ce (hz.sh E119) (ht.sh E119) (hn.sh E119) (ownS_at hOE E119 Sb.out)) ?_
                   rintro _ w ⟨eb, rb, y, Y, cy, Lm, rfl, hM, hOY, Hc⟩
                   refine ⟨_, rfl, ?_⟩
                   have E1 := SH.call (L1 := bR g9 0 none 0 0 :: ((bR g7 ra X x.length cx :: bA g4 rt R rn.length cr :: bN g3 n A l.length ca B ts.length cb C ns.length cc hd :: Lf))) (Lv := []) (by rw [List.append_nil]; exact E119.drop (List.Sublist.cons_cons _ Sb.out)) Hc
                   have E10X : SH w0 [] w (bR g9 0 none 0 0 :: ((bR g7 ra X x.length cx :: bA g4 rt R rn.length cr :: bN g3 n A l.length ca B ts.length cb C ns.length cc hd :: Lf) ++ Lm)) := E1
                   clear E1 Hc H E119
                   have H := E10X.drop (L' := (bR g7 ra X x.length cx :: bA g4 rt R rn.length cr :: bN g3 n A l.length ca B ts.length cb C ns.length cc hd :: Lf)) Sb.out)
                | (refine OPS.call (d := some 42) rfl rfl rfl (EvC.func (fun_run rfl)) (hmk w AE ce (hz.sh E019) (ht.sh E019) (hn.sh E019) (ownS_at hOE E019 Sb.out)) ?_
                   rintro _ w ⟨eb, rb, y, Y, cy, Lm, rfl, hM, hOY, Hc⟩
                   refine ⟨_, rfl, ?_⟩
                   have E1 := SH.call (L1 := (bR g7 ra X x.length cx :: bA g4 rt R rn.length cr :: bN g3 n A l.length ca B ts.length cb C ns.length cc hd :: Lf)) (Lv := []) (by rw [List.append_nil]; exact E019.drop (Sb.out)) Hc
                   have E00X : SH w0 [] w ((bR g7 ra X x.length cx :: bA g4 rt R rn.length cr :: bN g3 n A l.length ca B ts.length cb C ns.length cc hd :: Lf) ++ Lm) := E1
                   clear E1 Hc H E019
                   have H := E00X.drop (L' := (bR g7 ra X x.length cx :: bA g4 rt R rn.length cr :: bN g3 n A l.length ca B ts.length cb C ns.length cc hd :: Lf)) Sb.out)
                refine OPS.nil ?_
                refine ⟨(by exact H), ?_⟩
                refine OPH.take 11 rfl rfl rfl rfl (by kernel_rfl) (by kernel_rfl) (by kernel_rfl) rfl (by exact H) (fun w H => Ev.mvT rfl) ?_
                refine OPH.take 12 rfl rfl rfl rfl (by kernel_rfl) (by kernel_rfl) (by kernel_rfl) rfl (by exact H) (fun w H => Ev.extract rfl rfl) ?_
                refine OPH.take 13 rfl rfl rfl rfl (by kernel_rfl) (by kernel_rfl) (by kernel_rfl) rfl (by exact H) (fun w H => Ev.extract rfl rfl) ?_
                refine OPH.all [15] (by kernel_rfl) (by simp) rfl ?_
                intro i hi; simp only [List.mem_cons, List.not_mem_nil, or_false] at hi
                rcases hi with rfl
                · refine ⟨_, rfl, ?_⟩
                  refine OPS.store 0 _ rfl rfl rfl (size_run rfl) rfl (cA rfl) rfl rfl E10X rfl (by simp) ?_
                  clear H; intro w E1; clear E10X
                  simp only [List.set_cons_zero, putL] at E1
                  have H := E1.drop (L' := (bR g7 ra X x.length cx :: bA g4 rt R rn.length cr :: bN g3 n A l.length ca B ts.length cb C ns.length cc hd :: Lf)) Sb.out
                  refine OPS.nil ?_
                  refine ⟨(by exact H), ?_⟩
                  refine OPH.take 16 rfl rfl rfl rfl (by kernel_rfl) (by kernel_rfl) (by kernel_rfl) rfl (by exact H) (fun w H => Ev.asI rfl) ?_
                  refine OPH.done (by kernel_rfl) ?_
                  exact ⟨(by repeat (first | exact Agree.refl _ _ | exact Agree.mix _ _ _ | refine Agree.upd rfl ?_ | refine Agree.mix2 rfl ?_)), eb, rb, y, Y, cy, Lm, g9, rfl, rfl, hM, hOY, E1⟩
      · refine ⟨_, rfl, ?_⟩
        first
        | (refine OPS.alloc rfl rfl rfl rfl (zero_run rfl) rfl E00X ?_
           clear H; intro g9 w E1
           have E10X : SH w0 [] w (bR g9 0 none 0 0 :: ((bR g7 ra X x.length cx :: bA g4 rt R rn.length cr :: bN g3 n A l.length ca B ts.length cb C ns.length cc hd :: Lf) ++ Lm)) := E1
           clear E1 E00X
           have H := E10X.drop (L' := (bR g7 ra X x.length cx :: bA g4 rt R rn.length cr :: bN g3 n A l.length ca B ts.length cb C ns.length cc hd :: Lf)) Sb.out)
        | (refine OPS.alloc rfl rfl rfl rfl (zero_run rfl) rfl E019 ?_
           clear H; intro g9 w E1
           have E119 : SH w0 [] w (bR g9 0 none 0 0 :: (bM g40 [I more] :: ((bR g7 ra X x.length cx :: bA g4 rt R rn.length cr :: bN g3 n A l.length ca B ts.length cb C ns.length cc hd :: Lf) ++ Le))) := E1
           clear E1 E019
           have H := E119.drop (L' := (bR g7 ra X x.length cx :: bA g4 rt R rn.length cr :: bN g3 n A l.length ca B ts.length cb C ns.length cc hd :: Lf)) Sb.out)
        | (refine OPS.alloc rfl rfl rfl rfl (zero_run rfl) rfl E016 ?_
           clear H; intro g9 w E1
           have E116 : SH w0 [] w (bR g9 0 none 0 0 :: (bM g40 [I more] :: ((bR g7 ra X x.length cx :: bA g4 rt R rn.length cr :: bN g3 n A l.length ca B ts.length cb C ns.length cc hd :: Lf) ++ Le))) := E1
           clear E1 E016
           have H := E116.drop (L' := (bR g7 ra X x.length cx :: bA g4 rt R rn.length cr :: bN g3 n A l.length ca B ts.length cb C ns.length cc hd :: Lf)) Sb.out)
        | (refine OPS.alloc rfl rfl rfl rfl (zero_run rfl) rfl E006 ?_
           clear H; intro g9 w E1
           have E106 : SH w0 [] w (bR g9 0 none 0 0 :: ((bR g7 ra X x.length cx :: bA g4 rt R rn.length cr :: bN g3 n A l.length ca B ts.length cb C ns.length cc hd :: Lf) ++ Le)) := E1
           clear E1 E006
           have H := E106.drop (L' := (bR g7 ra X x.length cx :: bA g4 rt R rn.length cr :: bN g3 n A l.length ca B ts.length cb C ns.length cc hd :: Lf)) Sb.out)
        | (refine OPS.alloc rfl rfl rfl rfl (zero_run rfl) rfl E013 ?_
           clear H; intro g9 w E1
           have E113 : SH w0 [] w (bR g9 0 none 0 0 :: (bM g40 [I more] :: ((bR g7 ra X x.length cx :: bA g4 rt R rn.length cr :: bN g3 n A l.length ca B ts.length cb C ns.length cc hd :: Lf) ++ [⟨g35, 3, []⟩]))) := E1
           clear E1 E013
           have H := E113.drop (L' := (bR g7 ra X x.length cx :: bA g4 rt R rn.length cr :: bN g3 n A l.length ca B ts.length cb C ns.length cc hd :: Lf)) Sb.out)
        | (refine OPS.alloc rfl rfl rfl rfl (zero_run rfl) rfl E003 ?_
           clear H; intro g9 w E1
           have E103 : SH w0 [] w (bR g9 0 none 0 0 :: ((bR g7 ra X x.length cx :: bA g4 rt R rn.length cr :: bN g3 n A l.length ca B ts.length cb C ns.length cc hd :: Lf) ++ [⟨g35, 3, []⟩])) := E1
           clear E1 E003
           have H := E103.drop (L' := (bR g7 ra X x.length cx :: bA g4 rt R rn.length cr :: bN g3 n A l.length ca B ts.length cb C ns.length cc hd :: Lf)) Sb.out)
        | (refine OPS.alloc rfl rfl rfl rfl (zero_run rfl) rfl E010 ?_
           clear H; intro g9 w E1
           have E110 : SH w0 [] w (bR g9 0 none 0 0 :: (bM g40 [I more] :: ((bR g7 ra X x.length cx :: bA g4 rt R rn.length cr :: bN g3 n A l.length ca B ts.length cb C ns.length cc hd :: Lf)))) := E1
           clear E1 E010
           have H := E110.drop (L' := (bR g7 ra X x.length cx :: bA g4 rt R rn.length cr :: bN g3 n A l.length ca B ts.length cb C ns.length cc hd :: Lf)) Sb.out)
        | (refine OPS.alloc rfl rfl rfl rfl (zero_run rfl) rfl (E000.toBelow hbw4) ?_
           clear H; intro g9 w E1
           have E100 : SH w0 [] w (bR g9 0 none 0 0 :: ((bR g7 ra X x.length cx :: bA g4 rt R rn.length cr :: bN g3 n A l.length ca B ts.length cb C ns.length cc hd :: Lf))) := E1
           clear E1 E000
           have H := E100.drop (L' := (bR g7 ra X x.length cx :: bA g4 rt R rn.length cr :: bN g3 n A l.length ca B ts.length cb C ns.length cc hd :: Lf)) Sb.out)
        refine OPS.nil ?_
        refine ⟨(by exact H), ?_⟩
        refine OPH.all [6, 8] (by kernel_rfl) (by simp) rfl ?_
        intro i hi; simp only [List.mem_cons, List.not_mem_nil, or_false] at hi
        rcases hi with rfl | rfl
        · refine ⟨_, rfl, ?_⟩
          first
          | (refine OPS.appendE (m := rn.length) (news := rn.map I) (R := bR g9 0 none 0 0 :: (bM g40 [I more] :: ((bR g7 ra X x.length cx :: bA g4 rt R rn.length cr :: bN g3 n A l.length ca B ts.length cb C ns.length cc hd :: Lf)))) rfl rfl rfl rfl rfl (sl_run rfl) rfl rfl (OwnS.mt (g := g35)) (by simp) (intsFrom (hr.sh E113)) (intsOne rn) (by omega) (by unfold maxLen; omega) E113 (List.Perm.refl _) ?_
             clear H; intro AE ce Le w hOE E1
             have E116 : SH w0 [] w (bR g9 0 none 0 0 :: (bM g40 [I more] :: ((bR g7 ra X x.length cx :: bA g4 rt R rn.length cr :: bN g3 n A l.length ca B ts.length cb C ns.length cc hd :: Lf) ++ Le))) := E1
             clear E1 E113
             rw [Nat.zero_add, List.nil_append] at hOE
             rw [show 0 + rn.length = rn.length from Nat.zero_add _]
             have H := E116.drop (L' := (bR g7 ra X x.length cx :: bA g4 rt R rn.length cr :: bN g3 n A l.length ca B ts.length cb C ns.length cc hd :: Lf)) Sb.out)
          | (refine OPS.appendE (m := rn.length) (news := rn.map I) (R := bR g9 0 none 0 0 :: ((bR g7 ra X x.length cx :: bA g4 rt R rn.length cr :: bN g3 n A l.length ca B ts.length cb C ns.length cc hd :: Lf))) rfl rfl rfl rfl rfl (sl_run rfl) rfl rfl (OwnS.mt (g := g35)) (by simp) (intsFrom (hr.sh E103)) (intsOne rn) (by omega) (by unfold maxLen; omega) E103 (List.Perm.refl _) ?_
             clear H; intro AE ce Le w hOE E1
             have E106 : SH w0 [] w (bR g9 0 none 0 0 :: ((bR g7 ra X x.length cx :: bA g4 rt R rn.length cr :: bN g3 n A l.length ca B ts.length cb C ns.length cc hd :: Lf) ++ Le)) := E1
             clear E1 E103
             rw [Nat.zero_add, List.nil_append] at hOE
             rw [show 0 + rn.length = rn.length from Nat.zero_add _]
             have H := E106.drop (L' := (bR g7 ra X x.length cx :: bA g4 rt R rn.length cr :: bN g3 n A l.length ca B ts.length cb C ns.length cc hd :: Lf)) Sb.out)
          | (refine OPS.appendE (m := rn.length) (news := rn.map I) (R := bM g40 [I more] :: ((bR g7 ra X x.length cx :: bA g4 rt R rn.length cr :: bN g3 n A l.length ca B ts.length cb C ns.length cc hd :: Lf))) rfl rfl rfl rfl rfl (sl_run rfl) rfl rfl (OwnS.mt (g := g35)) (by simp) (intsFrom (hr.sh E013)) (intsOne rn) (by omega) (by unfold maxLen; omega) E013 (List.Perm.refl _) ?_
             clear H; intro AE ce Le w hOE E1
             have E016 : SH w0 [] w (bM g40 [I more] :: ((bR g7 ra X x.length cx :: bA g4 rt R rn.length cr :: bN g3 n A l.length ca B ts.length cb C ns.length cc hd :: Lf) ++ Le)) := E1
             clear E1 E013
             rw [Nat.zero_add, List.nil_append] at hOE
             rw [show 0 + rn.length = rn.length from Nat.zero_add _]
             have H := E016.drop (L' := (bR g7 ra X x.length cx :: bA g4 rt R rn.length cr :: bN g3 n A l.length ca B ts.length cb C ns.length cc hd :: Lf)) Sb.out)
          | (refine OPS.appendE (m := rn.length) (news := rn.map I) (R := (bR g7 ra X x.length cx :: bA g4 rt R rn.length cr :: bN g3 n A l.length ca B ts.length cb C ns.length cc hd :: Lf)) rfl rfl rfl rfl rfl (sl_run rfl) rfl rfl (OwnS.mt (g := g35)) (by simp) (intsFrom (hr.sh E003)) (intsOne rn) (by omega) (by unfold maxLen; omega) E003 (List.Perm.refl _) ?_
             clear H; intro AE ce Le w hOE E1
             have E006 : SH w0 [] w ((bR g7 ra X x.length cx :: bA g4 rt R rn.length cr :: bN g3 n A l.length ca B ts.length cb C ns.length cc hd :: Lf) ++ Le) := E1
             clear E1 E003
             rw [Nat.zero_add, List.nil_append] at hOE
             rw [show 0 + rn.length = rn.length from Nat.zero_add _]
             have H := E006.drop (L' := (bR g7 ra X x.length cx :: bA g4 rt R rn.length cr :: bN g3 n A l.length ca B ts.length cb C ns.length cc hd :: Lf)) Sb.out)
          refine OPS.nil ?_
          refine ⟨(by exact H), ?_⟩
          refine OPH.all [8] (by kernel_rfl) (by simp) rfl ?_
          intro i hi; simp only [List.mem_cons, List.not_mem_nil, or_false] at hi
          rcases hi with rfl
          · refine ⟨_, rfl, ?_⟩
            first
            | (refine OPS.buildSlice rfl rfl rfl rfl (bsl_29_1_0 rfl) E106 ?_
               clear H; intro g40 w E1
               have E116 : SH w0 [] w (bR g9 0 none 0 0 :: (bM g40 [I more] :: ((bR g7 ra X x.length cx :: bA g4 rt R rn.length cr :: bN g3 n A l.length ca B ts.length cb C ns.length cc hd :: Lf) ++ Le))) := E1.perm (List.Perm.swap _ _ _)
               clear E1 E106
               have H := E116.drop (L' := (bR g7 ra X x.length cx :: bA g4 rt R rn.length cr :: bN g3 n A l.length ca B ts.length cb C ns.length cc hd :: Lf)) Sb.out)
            | (refine OPS.buildSlice rfl rfl rfl rfl (bsl_29_1_0 rfl) E103 ?_
               clear H; intro g40 w E1
               have E113 : SH w0 [] w (bR g9 0 none 0 0 :: (bM g40 [I more] :: ((bR g7 ra X x.length cx :: bA g4 rt R rn.length cr :: bN g3 n A l.length ca B ts.length cb C ns.length cc hd :: Lf) ++ [⟨g35, 3, []⟩]))) := E1.perm (List.Perm.swap _ _ _)
               clear E1 E103
               have H := E113.drop (L' := (bR g7 ra X x.length cx :: bA g4 rt R rn.length cr :: bN g3 n A l.length ca B ts.length cb C ns.length cc hd :: Lf)) Sb.out)
            | (refine OPS.buildSlice rfl rfl rfl rfl (bsl_29_1_0 rfl) E100 ?_
               clear H; intro g40 w E1
               have E110 : SH w0 [] w (bR g9 0 none 0 0 :: (bM g40 [I more] :: ((bR g7 ra X x.length cx :: bA g4 rt R rn.length cr :: bN g3 n A l.length ca B ts.length cb C ns.length cc hd :: Lf)))) := E1.perm (List.Perm.swap _ _ _)
               clear E1 E100
               have H := E110.drop (L' := (bR g7 ra X x.length cx :: bA g4 rt R rn.length cr :: bN g3 n A l.length ca B ts.length cb C ns.length cc hd :: Lf)) Sb.out)
            | (refine OPS.buildSlice rfl rfl rfl rfl (bsl_29_1_0 rfl) E006 ?_
               clear H; intro g40 w E1
               have E016 : SH w0 [] w (bM g40 [I more] :: ((bR g7 ra X x.length cx :: bA g4 rt R rn.length cr :: bN g3 n A l.length ca B ts.length cb C ns.length cc hd :: Lf) ++ Le)) := E1
               clear E1 E006
               have H := E016.drop (L' := (bR g7 ra X x.length cx :: bA g4 rt R rn.length cr :: bN g3 n A l.length ca B ts.length cb C ns.length cc hd :: Lf)) Sb.out)
            | (refine OPS.buildSlice rfl rfl rfl rfl (bsl_29_1_0 rfl) E003 ?_
               clear H; intro g40 w E1
               have E013 : SH w0 [] w (bM g40 [I more] :: ((bR g7 ra X x.length cx :: bA g4 rt R rn.length cr :: bN g3 n A l.length ca B ts.length cb C ns.length cc hd :: Lf) ++ [⟨g35, 3, []⟩])) := E1
               clear E1 E003
               have H := E013.drop (L' := (bR g7 ra X x.length cx :: bA g4 rt R rn.length cr :: bN g3 n A l.length ca B ts.length cb C ns.length cc hd :: Lf)) Sb.out)
            | (refine OPS.buildSlice rfl rfl rfl rfl (bsl_29_1_0 rfl) (E000.toBelow hbw4) ?_
               clear H; intro g40 w E1
               have E010 : SH w0 [] w (bM g40 [I more] :: ((bR g7 ra X x.length cx :: bA g4 rt R rn.length cr :: bN g3 n A l.length ca B ts.length cb C ns.length cc hd :: Lf))) := E1
               clear E1 E000
               have H := E010.drop (L' := (bR g7 ra X x.length cx :: bA g4 rt R rn.length cr :: bN g3 n A l.length ca B ts.length cb C ns.length cc hd :: Lf)) Sb.out)
            refine OPS.nil ?_
            refine ⟨(by exact H), ?_⟩
            refine OPH.all [9] (by kernel_rfl) (by simp) rfl ?_
            intro i hi; simp only [List.mem_cons, List.not_mem_nil, or_false] at hi
            rcases hi with rfl
            · refine ⟨_, rfl, ?_⟩
              first
              | (refine OPS.append (m := 1) (news := [I more]) (R := bR g9 0 none 0 0 :: (bM g40 [I more] :: ((bR g7 ra X x.length cx :: bA g4 rt R rn.length cr :: bN g3 n A l.length ca B ts.length cb C ns.length cc hd :: Lf)))) rfl rfl rfl rfl rfl (sl_run rfl) rfl rfl hOE rfl (src_own E116 1 rfl) rfl (by omega) (by unfold maxLen; omega) E116 (List.Perm.refl _) ?_
                 clear H hOE; intro AE ce Le w hOE E1
                 rw [show rn.map I ++ [I more] = (rn ++ [more]).map I by simp] at hOE
                 have E119 : SH w0 [] w (bR g9 0 none 0 0 :: (bM g40 [I more] :: ((bR g7 ra X x.length cx :: bA g4 rt R rn.length cr :: bN g3 n A l.length ca B ts.length cb C ns.length cc hd :: Lf) ++ Le))) := E1
                 clear E1 E116
                 have H := E119.drop (L' := (bR g7 ra X x.length cx :: bA g4 rt R rn.length cr :: bN g3 n A l.length ca B ts.length cb C ns.length cc hd :: Lf)) Sb.out)
              | (refine OPS.append (m := 1) (news := [I more]) (R := bM g40 [I more] :: ((bR g7 ra X x.length cx :: bA g4 rt R rn.length cr :: bN g3 n A l.length ca B ts.length cb C ns.length cc hd :: Lf))) rfl rfl rfl rfl rfl (sl_run rfl) rfl rfl hOE rfl (src_own E016 0 rfl) rfl (by omega) (by unfold maxLen; omega) E016 (List.Perm.refl _) ?_
                 clear H hOE; intro AE ce Le w hOE E1
                 rw [show rn.map I ++ [I more] = (rn ++ [more]).map I by simp] at hOE
                 have E019 : SH w0 [] w (bM g40 [I more] :: ((bR g7 ra X x.length cx :: bA g4 rt R rn.length cr :: bN g3 n A l.length ca B ts.length cb C ns.length cc hd :: Lf) ++ Le)) := E1
                 clear E1 E016
                 have H := E019.drop (L' := (bR g7 ra X x.length cx :: bA g4 rt R rn.length cr :: bN g3 n A l.length ca B ts.length cb C ns.length cc hd :: Lf)) Sb.out)
              refine OPS.nil ?_
              refine ⟨(by exact H), ?_⟩
              refine OPH.all [10] (by kernel_rfl) (by simp) rfl ?_
              intro i hi; simp only [List.mem_cons, List.not_mem_nil, or_false] at hi
              rcases hi with rfl
              · refine ⟨_, rfl, ?_⟩
                first
                | (refine OPS.call (d := some 42) rfl rfl rfl (EvC.func (fun_run rfl)) (hmk w AE ce (hz.sh E119) (ht.sh E119) (hn.sh E119) (ownS_at hOE E119 Sb.out)) ?_
                   rintro _ w ⟨eb, rb, y, Y, cy, Lm, rfl, hM, hOY, Hc⟩
                   refine ⟨_, rfl, ?_⟩
                   have E1 := SH.call (L1 := bR g9 0 none 0 0 :: ((bR g7 ra X x.length cx :: bA g4 rt R rn.length cr :: bN g3 n A l.length ca B ts.length cb C ns.length cc hd :: Lf))) (Lv := []) (by rw [List.append_nil]; exact E119.drop (List.Sublist.cons_cons _ Sb.out)) Hc
                   have E10X : SH w0 [] w (bR g9 0 none 0 0 :: ((bR g7 ra X x.length cx :: bA g4 rt R rn.length cr :: bN g3 n A l.length ca B ts.length cb C ns.length cc hd :: Lf) ++ Lm)) := E1
                   clear E1 Hc H E119
                   have H := E10X.drop (L' := (bR g7 ra X x.length cx :: bA g4 rt R rn.length cr :: bN g3 n A l.length ca B ts.length cb C ns.length cc hd :: Lf)) Sb.out)
                | (refine OPS.call (d := some 42) rfl rfl rfl (EvC.func (fun_run rfl)) (hmk w AE ce (hz.sh E019) (ht.sh E019) (hn.sh E019) (ownS_at hOE E019 Sb.out)) ?_
                   rintro _ w ⟨eb, rb, y, Y, cy, Lm, rfl, hM, hOY, Hc⟩
                   refine ⟨_, rfl, ?_⟩
                   have E1 := SH.call (L1 := (bR g7 ra X x.length cx :: bA g4 rt R rn.length cr :: bN g3 n A l.length ca B ts.length cb C ns.length cc hd :: Lf)) (Lv := []) (by rw [List.append_nil]; exact E019.drop (Sb.out)) Hc
                   have E00X : SH w0 [] w ((bR g7 ra X x.length cx :: bA g4 rt R rn.length cr :: bN g3 n A l.length ca B ts.length cb C ns.length cc hd :: Lf) ++ Lm) := E1
                   clear E1 Hc H E019
                   have H := E00X.drop (L' := (bR g7 ra X x.length cx :: bA g4 rt R rn.length cr :: bN g3 n A l.length ca B ts.length cb C ns.length cc hd :: Lf)) Sb.out)
                refine OPS.nil ?_
                refine ⟨(by exact H), ?_⟩
                refine OPH.take 11 rfl rfl rfl rfl (by kernel_rfl) (by kernel_rfl) (by kernel_rfl) rfl (by exact H) (fun w H => Ev.mvT rfl) ?_
                refine OPH.take 12 rfl rfl rfl rfl (by kernel_rfl) (by kernel_rfl) (by kernel_rfl) rfl (by exact H) (fun w H => Ev.extract rfl rfl) ?_
                refine OPH.take 13 rfl rfl rfl rfl (by kernel_rfl) (by kernel_rfl) (by kernel_rfl) rfl (by exact H) (fun w H => Ev.extract rfl rfl) ?_
                refine OPH.all [15] (by kernel_rfl) (by simp) rfl ?_
                intro i hi; simp only [List.mem_cons, List.not_mem_nil, or_false] at hi
                rcases hi with rfl
                · refine ⟨_, rfl, ?_⟩
                  refine OPS.store 0 _ rfl rfl rfl (size_run rfl) rfl (cA rfl) rfl rfl E10X rfl (by simp) ?_
                  clear H; intro w E1; clear E10X
                  simp only [List.set_cons_zero, putL] at E1
                  have H := E1.drop (L' := (bR g7 ra X x.length cx :: bA g4 rt R rn.length cr :: bN g3 n A l.length ca B ts.length cb C ns.length cc hd :: Lf)) Sb.out
                  refine OPS.nil ?_
                  refine ⟨(by exact H), ?_⟩
                  refine OPH.take 16 rfl rfl rfl rfl (by kernel_rfl) (by kernel_rfl) (by kernel_rfl) rfl (by exact H) (fun w H => Ev.asI rfl) ?_
                  refine OPH.done (by kernel_rfl) ?_
                  exact ⟨(by repeat (first | exact Agree.refl _ _ | exact Agree.mix _ _ _ | refine Agree.upd rfl ?_ | refine Agree.mix2 rfl ?_)), eb, rb, y, Y, cy, Lm, g9, rfl, rfl, hM, hOY, E1⟩
        · refine ⟨_, rfl, ?_⟩
          first
          | (refine OPS.buildSlice rfl rfl rfl rfl (bsl_29_1_0 rfl) E106 ?_
             clear H; intro g40 w E1
             have E116 : SH w0 [] w (bR g9 0 none 0 0 :: (bM g40 [I more] :: ((bR g7 ra X x.length cx :: bA g4 rt R rn.length cr :: bN g3 n A l.length ca B ts.length cb C ns.length cc hd :: Lf) ++ Le))) := E1.perm (List.Perm.swap _ _ _)
             clear E1 E106
             have H := E116.drop (L' := (bR g7 ra X x.length cx :: bA g4 rt R rn.length cr :: bN g3 n A l.length ca B ts.length cb C ns.length cc hd :: Lf)) Sb.out)
          | (refine OPS.buildSlice rfl rfl rfl rfl (bsl_29_1_0 rfl) E103 ?_
             clear H; intro g40 w E1
             have E113 : SH w0 [] w (bR g9 0 none 0 0 :: (bM g40 [I more] :: ((bR g7 ra X x.length cx :: bA g4 rt R rn.length cr :: bN g3 n A l.length ca B ts.length cb C ns.length cc hd :: Lf) ++ [⟨g35, 3, []⟩]))) := E1.perm (List.Perm.swap _ _ _)
             clear E1 E103
             have H := E113.drop (L' := (bR g7 ra X x.length cx :: bA g4 rt R rn.length cr :: bN g3 n A l.length ca B ts.length cb C ns.length cc hd :: Lf)) Sb.out)
          | (refine OPS.buildSlice rfl rfl rfl rfl (bsl_29_1_0 rfl) E100 ?_
             clear H; intro g40 w E1
             have E110 : SH w0 [] w (bR g9 0 none 0 0 :: (bM g40 [I more] :: ((bR g7 ra X x.length cx :: bA g4 rt R rn.length cr :: bN g3 n A l.length ca B ts.length cb C ns.length cc hd :: Lf)))) := E1.perm (List.Perm.swap _ _ _)
             clear E1 E100
             have H := E110.drop (L' := (bR g7 ra X x.length cx :: bA g4 rt R rn.length cr :: bN g3 n A l.length ca B ts.length cb C ns.length cc hd :: Lf)) Sb.out)
          | (refine OPS.buildSlice rfl rfl rfl rfl (bsl_29_1_0 rfl) E006 ?_
             clear H; intro g40 w E1
             have E016 : SH w0 [] w (bM g40 [I more] :: ((bR g7 ra X x.length cx :: bA g4 rt R rn.length cr :: bN g3 n A l.length ca B ts.length cb C ns.length cc hd :: Lf) ++ Le)) := E1
             clear E1 E006
             have H := E016.drop (L' := (bR g7 ra X x.length cx :: bA g4 rt R rn.length cr :: bN g3 n A l.length ca B ts.length cb C ns.length cc hd :: Lf)) Sb.out)
          | (refine OPS.buildSlice rfl rfl rfl rfl (bsl_29_1_0 rfl) E003 ?_
             clear H; intro g40 w E1
             have E013 : SH w0 [] w (bM g40 [I more] :: ((bR g7 ra X x.length cx :: bA g4 rt R rn.length cr :: bN g3 n A l.length ca B ts.length cb C ns.length cc hd :: Lf) ++ [⟨g35, 3, []⟩])) := E1
             clear E1 E003
             have H := E013.drop (L' := (bR g7 ra X x.length cx :: bA g4 rt R rn.length cr :: bN g3 n A l.length ca B ts.length cb C ns.length cc hd :: Lf)) Sb.out)
          | (refine OPS.buildSlice rfl rfl rfl rfl (bsl_29_1_0 rfl) (E000.toBelow hbw4) ?_
             clear H; intro g40 w E1
             have E010 : SH w0 [] w (bM g40 [I more] :: ((bR g7 ra X x.length cx :: bA g4 rt R rn.length cr :: bN g3 n A l.length ca B ts.length cb C ns.length cc hd :: Lf))) := E1
             clear E1 E000
             have H := E010.drop (L' := (bR g7 ra X x.length cx :: bA g4 rt R rn.length cr :: bN g3 n A l.length ca B ts.length cb C ns.length cc hd :: Lf)) Sb.out)
          refine OPS.nil ?_
          refine ⟨(by exact H), ?_⟩
          refine OPH.all [6] (by kernel_rfl) (by simp) rfl ?_
          intro i hi; simp only [List.mem_cons, List.not_mem_nil, or_false] at hi
          rcases hi with rfl
          · refine ⟨_, rfl, ?_⟩
            first
            | (refine OPS.appendE (m := rn.length) (news := rn.map I) (R := bR g9 0 none 0 0 :: (bM g40 [I more] :: ((bR g7 ra X x.length cx :: bA g4 rt R rn.length cr :: bN g3 n A l.length ca B ts.length cb C ns.length cc hd :: Lf)))) rfl rfl rfl rfl rfl (sl_run rfl) rfl rfl (OwnS.mt (g := g35)) (by simp) (intsFrom (hr.sh E113)) (intsOne rn) (by omega) (by unfold maxLen; omega) E113 (List.Perm.refl _) ?_
               clear H; intro AE ce Le w hOE E1
               have E116 : SH w0 [] w (bR g9 0 none 0 0 :: (bM g40 [I more] :: ((bR g7 ra X x.length cx :: bA g4 rt R rn.length cr :: bN g3 n A l.length ca B ts.length cb C ns.length cc hd :: Lf) ++ Le))) := E1
               clear E1 E113
               rw [Nat.zero_add, List.nil_append] at hOE
               rw [show 0 + rn.length = rn.length from Nat.zero_add _]
               have H := E116.drop (L' := (bR g7 ra X x.length cx :: bA g4 rt R rn.length cr :: bN g3 n A l.length ca B ts.length cb C ns.length cc hd :: Lf)) Sb.out)
            | (refine OPS.appendE (m := rn.length) (news := rn.map I) (R := bR g9 0 none 0 0 :: ((bR g7 ra X x.length cx :: bA g4 rt R rn.length cr :: bN g3 n A l.length ca B ts.length cb C ns.length cc hd :: Lf))) rfl rfl rfl rfl rfl (sl_run rfl) rfl rfl (OwnS.mt (g := g35)) (by simp) (intsFrom (hr.sh E103)) (intsOne rn) (by omega) (by unfold maxLen; omega) E103 (List.Perm.refl _) ?_
               clear H; intro AE ce Le w hOE E1
               have E106 : SH w0 [] w (bR g9 0 none 0 0 :: ((bR g7 ra X x.length cx :: bA g4 rt R rn.length cr :: bN g3 n A l.length ca B ts.length cb C ns.length cc hd :: Lf) ++ Le)) := E1
               clear E1 E103
               rw [Nat.zero_add, List.nil_append] at hOE
               rw [show 0 + rn.length = rn.length from Nat.zero_add _]
               have H := E106.drop (L' := (bR g7 ra X x.length cx :: bA g4 rt R rn.length cr :: bN g3 n A l.length ca B ts.length cb C ns.length cc hd :: Lf)) Sb.out)
            | (refine OPS.appendE (m := rn.length) (news := rn.map I) (R := bM g40 [I more] :: ((bR g7 ra X x.length cx :: bA g4 rt R rn.length cr :: bN g3 n A l.length ca B ts.length cb C ns.length cc hd :: Lf))) rfl rfl rfl rfl rfl (sl_run rfl) rfl rfl (OwnS.mt (g := g35)) (by simp) (intsFrom (hr.sh E013)) (intsOne rn) (by omega) (by unfold maxLen; omega) E013 (List.Perm.refl _) ?_
               clear H; intro AE ce Le w hOE E1
               have E016 : SH w0 [] w (bM g40 [I more] :: ((bR g7 ra X x.length cx :: bA g4 rt R rn.length cr :: bN g3 n A l.length ca B ts.length cb C ns.length cc hd :: Lf) ++ Le)) := E1
               clear E1 E013
               rw [Nat.zero_add, List.nil_append] at hOE
               rw [show 0 + rn.length = rn.length from Nat.zero_add _]
               have H := E016.drop (L' := (bR g7 ra X x.length cx :: bA g4 rt R rn.length cr :: bN g3 n A l.length ca B ts.length cb C ns.length cc hd :: Lf)) Sb.out)
            | (refine OPS.appendE (m := rn.length) (news := rn.map I) (R := (bR g7 ra X x.length cx :: bA g4 rt R rn.length cr :: bN g3 n A l.length ca B ts.length cb C ns.length cc hd :: Lf)) rfl rfl rfl rfl rfl (sl_run rfl) rfl rfl (OwnS.mt (g := g35)) (by simp) (intsFrom (hr.sh E003)) (intsOne rn) (by omega) (by unfold maxLen; omega) E003 (List.Perm.refl _) ?_
               clear H; intro AE ce Le w hOE E1
               have E006 : SH w0 [] w ((bR g7 ra X x.length cx :: bA g4 rt R rn.length cr :: bN g3 n A l.length ca B ts.length cb C ns.length cc hd :: Lf) ++ Le) := E1
               clear E1 E003
               rw [Nat.zero_add, List.nil_append] at hOE
               rw [show 0 + rn.length = rn.length from Nat.zero_add _]
               have H := E006.drop (L' := (bR g7 ra X x.length cx :: bA g4 rt R rn.length cr :: bN g3 n A l.length ca B ts.length cb C ns.length cc hd :: Lf)) Sb.out)
            refine OPS.nil ?_
            refine ⟨(by exact H), ?_⟩
            refine OPH.all [9] (by kernel_rfl) (by simp) rfl ?_
            intro i hi; simp only [List.mem_cons, List.not_mem_nil, or_false] at hi
            rcases hi with rfl
            · refine ⟨_, rfl, ?_⟩
              first
              | (refine OPS.append (m := 1) (news := [I more]) (R := bR g9 0 none 0 0 :: (bM g40 [I more] :: ((bR g7 ra X x.length cx :: bA g4 rt R rn.length cr :: bN g3 n A l.length ca B ts.length cb C ns.length cc hd :: Lf)))) rfl rfl rfl rfl rfl (sl_run rfl) rfl rfl hOE rfl (src_own E116 1 rfl) rfl (by omega) (by unfold maxLen; omega) E116 (List.Perm.refl _) ?_
                 clear H hOE; intro AE ce Le w hOE E1
                 rw [show rn.map I ++ [I more] = (rn ++ [more]).map I by simp] at hOE
                 have E119 : SH w0 [] w (bR g9 0 none 0 0 :: (bM g40 [I more] :: ((bR g7 ra X x.length cx :: bA g4 rt R rn.length cr :: bN g3 n A l.length ca B ts.length cb C ns.length cc hd :: Lf) ++ Le))) := E1
                 clear E1 E116
                 have H := E119.drop (L' := (bR g7 ra X x.length cx :: bA g4 rt R rn.length cr :: bN g3 n A l.length ca B ts.length cb C ns.length cc hd :: Lf)) Sb.out)
              | (refine OPS.append (m := 1) (news := [I more]) (R := bM g40 [I more] :: ((bR g7 ra X x.length cx :: bA g4 rt R rn.length cr :: bN g3 n A l.length ca B ts.length cb C ns.length cc hd :: Lf))) rfl rfl rfl rfl rfl (sl_run rfl) rfl rfl hOE rfl (src_own E016 0 rfl) rfl (by omega) (by unfold maxLen; omega) E016 (List.Perm.refl _) ?_
                 clear H hOE; intro AE ce Le w hOE E1
                 rw [show rn.map I ++ [I more] = (rn ++ [more]).map I by simp] at hOE
                 have E019 : SH w0 [] w (bM g40 [I more] :: ((bR g7 ra X x.length cx :: bA g4 rt R rn.length cr :: bN g3 n A l.length ca B ts.length cb C ns.length cc hd :: Lf) ++ Le)) := E1
                 clear E1 E016
                 have H := E019.drop (L' := (bR g7 ra X x.length cx :: bA g4 rt R rn.length cr :: bN g3 n A l.length ca B ts.length cb C ns.length cc hd :: Lf)) Sb.out)
              refine OPS.nil ?_
              refine ⟨(by exact H), ?_⟩
              refine OPH.all [10] (by kernel_rfl) (by simp) rfl ?_
              intro i hi; simp only [List.mem_cons, List.not_mem_nil, or_false] at hi
              rcases hi with rfl
              · refine ⟨_, rfl, ?_⟩
                first
                | (refine OPS.call (d := some 42) rfl rfl rfl (EvC.func (fun_run rfl)) (hmk w AE ce (hz.sh E119) (ht.sh E119) (hn.sh E119) (ownS_at hOE E119 Sb.out)) ?_
                   rintro _ w ⟨eb, rb, y, Y, cy, Lm, rfl, hM, hOY, Hc⟩
                   refine ⟨_, rfl, ?_⟩
                   have E1 := SH.call (L1 := bR g9 0 none 0 0 :: ((bR g7 ra X x.length cx :: bA g4 rt R rn.length cr :: bN g3 n A l.length ca B ts.length cb C ns.length cc hd :: Lf))) (Lv := []) (by rw [List.append_nil]; exact E119.drop (List.Sublist.cons_cons _ Sb.out)) Hc
                   have E10X : SH w0 [] w (bR g9 0 none 0 0 :: ((bR g7 ra X x.length cx :: bA g4 rt R rn.length cr :: bN g3 n A l.length ca B ts.length cb C ns.length cc hd :: Lf) ++ Lm)) := E1
                   clear E1 Hc H E119
                   have H := E10X.drop (L' := (bR g7 ra X x.length cx :: bA g4 rt R rn.length cr :: bN g3 n A l.length ca B ts.length cb C ns.length cc hd :: Lf)) Sb.out)
                | (refine OPS.call (d := some 42) rfl rfl rfl (EvC.func (fun_run rfl)) (hmk w AE ce (hz.sh E019) (ht.sh E019) (hn.sh E019) (ownS_at hOE E019 Sb.out)) ?_
                   rintro _ w ⟨eb, rb, y, Y, cy, Lm, rfl, hM, hOY, Hc⟩
                   refine ⟨_, rfl, ?_⟩
                   have E1 := SH.call (L1 := (bR g7 ra X x.length cx :: bA g4 rt R rn.length cr :: bN g3 n A l.length ca B ts.length cb C ns.length cc hd :: Lf)) (Lv := []) (by rw [List.append_nil]; exact E019.drop (Sb.out)) Hc
                   have E00X : SH w0 [] w ((bR g7 ra X x.length cx :: bA g4 rt R rn.length cr :: bN g3 n A l.length ca B ts.length cb C ns.length cc hd :: Lf) ++ Lm) := E1
                   clear E1 Hc H E019
                   have H := E00X.drop (L' := (bR g7 ra X x.length cx :: bA g4 rt R rn.length cr :: bN g3 n A l.length ca B ts.length cb C ns.length cc hd :: Lf)) Sb.out)
                refine OPS.nil ?_
                refine ⟨(by exact H), ?_⟩
                refine OPH.take 11 rfl rfl rfl rfl (by kernel_rfl) (by kernel_rfl) (by kernel_rfl) rfl (by exact H) (fun w H => Ev.mvT rfl) ?_
                refine OPH.take 12 rfl rfl rfl rfl (by kernel_rfl) (by kernel_rfl) (by kernel_rfl) rfl (by exact H) (fun w H => Ev.extract rfl rfl) ?_
                refine OPH.take 13 rfl rfl rfl rfl (by kernel_rfl) (by kernel_rfl) (by kernel_rfl) rfl (by exact H) (fun w H => Ev.extract rfl rfl) ?_
                refine OPH.all [15] (by kernel_rfl) (by simp) rfl ?_
                intro i hi; simp only [List.mem_cons, List.not_mem_nil, or_false] at hi
                rcases hi with rfl
                · refine ⟨_, rfl, ?_⟩
                  refine OPS.store 0 _ rfl rfl rfl (size_run rfl) rfl (cA rfl) rfl rfl E10X rfl (by simp) ?_
                  clear H; intro w E1; clear E10X
                  simp only [List.set_cons_zero, putL] at E1
                  have H := E1.drop (L' := (bR g7 ra X x.length cx :: bA g4 rt R rn.length cr :: bN g3 n A l.length ca B ts.length cb C ns.length cc hd :: Lf)) Sb.out
                  refine OPS.nil ?_
                  refine ⟨(by exact H), ?_⟩
                  refine OPH.take 16 rfl rfl rfl rfl (by kernel_rfl) (by kernel_rfl) (by kernel_rfl) rfl (by exact H) (fun w H => Ev.asI rfl) ?_
                  refine OPH.done (by kernel_rfl) ?_
                  exact ⟨(by repeat (first | exact Agree.refl _ _ | exact Agree.mix _ _ _ | refine Agree.upd rfl ?_ | refine Agree.mix2 rfl ?_)), eb, rb, y, Y, cy, Lm, g9, rfl, rfl, hM, hOY, E1⟩
    · refine ⟨_, rfl, ?_⟩
      first
      | (refine OPS.buildSlice rfl rfl rfl rfl (bsl_29_1_0 rfl) E106 ?_
         clear H; intro g40 w E1
         have E116 : SH w0 [] w (bR g9 0 none 0 0 :: (bM g40 [I more] :: ((bR g7 ra X x.length cx :: bA g4 rt R rn.length cr :: bN g3 n A l.length ca B ts.length cb C ns.length cc hd :: Lf) ++ Le))) := E1.perm (List.Perm.swap _ _ _)
         clear E1 E106
         have H := E116.drop (L' := (bR g7 ra X x.length cx :: bA g4 rt R rn.length cr :: bN g3 n A l.length ca B ts.length cb C ns.length cc hd :: Lf)) Sb.out)
      | (refine OPS.buildSlice rfl rfl rfl rfl (bsl_29_1_0 rfl) E103 ?_
         clear H; intro g40 w E1
         have E113 : SH w0 [] w (bR g9 0 none 0 0 :: (bM g40 [I more] :: ((bR g7 ra X x.length cx :: bA g4 rt R rn.length cr :: bN g3 n A l.length ca B ts.length cb C ns.length cc hd :: Lf) ++ [⟨g35, 3, []⟩]))) := E1.perm (List.Perm.swap _ _ _)
         clear E1 E103
         have H := E113.drop (L' := (bR g7 ra X x.length cx :: bA g4 rt R rn.length cr :: bN g3 n A l.length ca B ts.length cb C ns.length cc hd :: Lf)) Sb.out)
      | (refine OPS.buildSlice rfl rfl rfl rfl (bsl_29_1_0 rfl) E100 ?_
         clear H; intro g40 w E1
         have E110 : SH w0 [] w (bR g9 0 none 0 0 :: (bM g40 [I more] :: ((bR g7 ra X x.length cx :: bA g4 rt R rn.length cr :: bN g3 n A l.length ca B ts.length cb C ns.length cc hd :: Lf)))) := E1.perm (List.Perm.swap _ _ _)
         clear E1 E100
         have H := E110.drop (L' := (bR g7 ra X x.length cx :: bA g4 rt R rn.length cr :: bN g3 n A l.length ca B ts.length cb C ns.length cc hd :: Lf)) Sb.out)
      | (refine OPS.buildSlice rfl rfl rfl rfl (bsl_29_1_0 rfl) E006 ?_
         clear H; intro g40 w E1
         have E016 : SH w0 [] w (bM g40 [I more] :: ((bR g7 ra X x.length cx :: bA g4 rt R rn.length cr :: bN g3 n A l.length ca B ts.length cb C ns.length cc hd :: Lf) ++ Le)) := E1
         clear E1 E006
         have H := E016.drop (L' := (bR g7 ra X x.length cx :: bA g4 rt R rn.length cr :: bN g3 n A l.length ca B ts.length cb C ns.length cc hd :: Lf)) Sb.out)
      | (refine OPS.buildSlice rfl rfl rfl rfl (bsl_29_1_0 rfl) E003 ?_
         clear H; intro g40 w E1
         have E013 : SH w0 [] w (bM g40 [I more] :: ((bR g7 ra X x.length cx :: bA g4 rt R rn.length cr :: bN g3 n A l.length ca B ts.length cb C ns.length cc hd :: Lf) ++ [⟨g35, 3, []⟩])) := E1
         clear E1 E003
         have H := E013.drop (L' := (bR g7 ra X x.length cx :: bA g4 rt R rn.length cr :: bN g3 n A l.length ca B ts.length cb C ns.length cc hd :: Lf)) Sb.out)
      | (refine OPS.buildSlice rfl rfl rfl rfl (bsl_29_1_0 rfl) (E000.toBelow hbw4) ?_
         clear H; intro g40 w E1
         have E010 : SH w0 [] w (bM g40 [I more] :: ((bR g7 ra X x.length cx :: bA g4 rt R rn.length cr :: bN g3 n A l.length ca B ts.length cb C ns.length cc hd :: Lf))) := E1
         clear E1 E000
         have H := E010.drop (L' := (bR g7 ra X x.length cx :: bA g4 rt R rn.length cr :: bN g3 n A l.length ca B ts.length cb C ns.length cc hd :: Lf)) Sb.out)
      refine OPS.nil ?_
      refine ⟨(by exact H), ?_⟩
      refine OPH.all [3, 14] (by kernel_rfl) (by simp) rfl ?_
      intro i hi; simp only [List.mem_cons, List.not_mem_nil, or_false] at hi
      rcases hi with rfl | rfl
      · refine ⟨_, rfl, ?_⟩
        first
        | (refine OPS.buildSlice rfl rfl rfl rfl (bsl_29_0_ (e := fun _ => .int .i64 0)) E110 ?_
           clear H; intro g35 w E1
           have E113 : SH w0 [] w (bR g9 0 none 0 0 :: (bM g40 [I more] :: ((bR g7 ra X x.length cx :: bA g4 rt R rn.length cr :: bN g3 n A l.length ca B ts.length cb C ns.length cc hd :: Lf) ++ [⟨g35, 3, []⟩]))) := E1.perm (by exact permBy fun f => by simp <;> omega)
           clear E1 E110
           have H := E113.drop (L' := (bR g7 ra X x.length cx :: bA g4 rt R rn.length cr :: bN g3 n A l.length ca B ts.length cb C ns.length cc hd :: Lf)) Sb.out)
        | (refine OPS.buildSlice rfl rfl rfl rfl (bsl_29_0_ (e := fun _ => .int .i64 0)) E100 ?_
           clear H; intro g35 w E1
           have E103 : SH w0 [] w (bR g9 0 none 0 0 :: ((bR g7 ra X x.length cx :: bA g4 rt R rn.length cr :: bN g3 n A l.length ca B ts.length cb C ns.length cc hd :: Lf) ++ [⟨g35, 3, []⟩])) := E1.perm (by exact permBy fun f => by simp <;> omega)
           clear E1 E100
           have H := E103.drop (L' := (bR g7 ra X x.length cx :: bA g4 rt R rn.length cr :: bN g3 n A l.length ca B ts.length cb C ns.length cc hd :: Lf)) Sb.out)
        | (refine OPS.buildSlice rfl rfl rfl rfl (bsl_29_0_ (e := fun _ => .int .i64 0)) E010 ?_
           clear H; intro g35 w E1
           have E013 : SH w0 [] w (bM g40 [I more] :: ((bR g7 ra X x.length cx :: bA g4 rt R rn.length cr :: bN g3 n A l.length ca B ts.length cb C ns.length cc hd :: Lf) ++ [⟨g35, 3, []⟩])) := E1.perm (by exact permBy fun f => by simp <;> omega)
           clear E1 E010
           have H := E013.drop (L' := (bR g7 ra X x.length cx :: bA g4 rt R rn.length cr :: bN g3 n A l.length ca B ts.length cb C ns.length cc hd :: Lf)) Sb.out)
        | (refine OPS.buildSlice rfl rfl rfl rfl (bsl_29_0_ (e := fun _ => .int .i64 0)) (E000.toBelow hbw4) ?_
           clear H; intro g35 w E1
           have E003 : SH w0 [] w ((bR g7 ra X x.length cx :: bA g4 rt R rn.length cr :: bN g3 n A l.length ca B ts.length cb C ns.length cc hd :: Lf) ++ [⟨g35, 3, []⟩]) := E1.perm (by exact permBy fun f => by simp <;> omega)
           clear E1 E000
           have H := E003.drop (L' := (bR g7 ra X x.length cx :: bA g4 rt R rn.length cr :: bN g3 n A l.length ca B ts.length cb C ns.length cc hd :: Lf)) Sb.out)
        refine OPS.nil ?_
        refine ⟨(by exact H), ?_⟩
        refine OPH.all [6, 14] (by kernel_rfl) (by simp) rfl ?_
        intro i hi; simp only [List.mem_cons, List.not_mem_nil, or_false] at hi
        rcases hi with rfl | rfl
        · refine ⟨_, rfl, ?_⟩
          first
          | (refine OPS.appendE (m := rn.length) (news := rn.map I) (R := bR g9 0 none 0 0 :: (bM g40 [I more] :: ((bR g7 ra X x.length cx :: bA g4 rt R rn.length cr :: bN g3 n A l.length ca B ts.length cb C ns.length cc hd :: Lf)))) rfl rfl rfl rfl rfl (sl_run rfl) rfl rfl (OwnS.mt (g := g35)) (by simp) (intsFrom (hr.sh E113)) (intsOne rn) (by omega) (by unfold maxLen; omega) E113 (List.Perm.refl _) ?_
             clear H; intro AE ce Le w hOE E1
             have E116 : SH w0 [] w (bR g9 0 none 0 0 :: (bM g40 [I more] :: ((bR g7 ra X x.length cx :: bA g4 rt R rn.length cr :: bN g3 n A l.length ca B ts.length cb C ns.length cc hd :: Lf) ++ Le))) := E1
             clear E1 E113
             rw [Nat.zero_add, List.nil_append] at hOE
             rw [show 0 + rn.length = rn.length from Nat.zero_add _]
             have H := E116.drop (L' := (bR g7 ra X x.length cx :: bA g4 rt R rn.length cr :: bN g3 n A l.length ca B ts.length cb C ns.length cc hd :: Lf)) Sb.out)
          | (refine OPS.appendE (m := rn.length) (news := rn.map I) (R := bR g9 0 none 0 0 :: ((bR g7 ra X x.length cx :: bA g4 rt R rn.length cr :: bN g3 n A l.length ca B ts.length cb C ns.length cc hd :: Lf))) rfl rfl rfl rfl rfl (sl_run rfl) rfl rfl (OwnS.mt (g := g35)) (by simp) (intsFrom (hr.sh E103)) (intsOne rn) (by omega) (by unfold maxLen; omega) E103 (List.Perm.refl _) ?_
             clear H; intro AE ce Le w hOE E1
             have E106 : SH w0 [] w (bR g9 0 none 0 0 :: ((bR g7 ra X x.length cx :: bA g4 rt R rn.length cr :: bN g3 n A l.length ca B ts.length cb C ns.length cc hd :: Lf) ++ Le)) := E1
             clear E1 E103
             rw [Nat.zero_add, List.nil_append] at hOE
             rw [show 0 + rn.length = rn.length from Nat.zero_add _]
             have H := E106.drop (L' := (bR g7 ra X x.length cx :: bA g4 rt R rn.length cr :: bN g3 n A l.length ca B ts.length cb C ns.length cc hd :: Lf)) Sb.out)
          | (refine OPS.appendE (m := rn.length) (news := rn.map I) (R := bM g40 [I more] :: ((bR g7 ra X x.length cx :: bA g4 rt R rn.length cr :: bN g3 n A l.length ca B ts.length cb C ns.length cc hd :: Lf))) rfl rfl rfl rfl rfl (sl_run rfl) rfl rfl (OwnS.mt (g := g35)) (by simp) (intsFrom (hr.sh E013)) (intsOne rn) (by omega) (by unfold maxLen; omega) E013 (List.Perm.refl _) ?_
             clear H; intro AE ce Le w hOE E1
             have E016 : SH w0 [] w (bM g40 [I more] :: ((bR g7 ra X x.length cx :: bA g4 rt R rn.length cr :: bN g3 n A l.length ca B ts.length cb C ns.length cc hd :: Lf) ++ Le)) := E1
             clear E1 E013
             rw [Nat.zero_add, List.nil_append] at hOE
             rw [show 0 + rn.length = rn.length from Nat.zero_add _]
             have H := E016.drop (L' := (bR g7 ra X x.length cx :: bA g4 rt R rn.length cr :: bN g3 n A l.length ca B ts.length cb C ns.length cc hd :: Lf)) Sb.out)
          | (refine OPS.appendE (m := rn.length) (news := rn.map I) (R := (bR g7 ra X x.length cx :: bA g4 rt R rn.length cr :: bN g3 n A l.length ca B ts.length cb C ns.length cc hd :: Lf)) rfl rfl rfl rfl rfl (sl_run rfl) rfl rfl (OwnS.mt (g := g35)) (by simp) (intsFrom (hr.sh E003)) (intsOne rn) (by omega) (by unfold maxLen; omega) E003 (List.Perm.refl _) ?_
             clear H; intro AE ce Le w hOE E1
             have E006 : SH w0 [] w ((bR g7 ra X x.length cx :: bA g4 rt R rn.length cr :: bN g3 n A l.length ca B ts.length cb C ns.length cc hd :: Lf) ++ Le) := E1
             clear E1 E003
             rw [Nat.zero_add, List.nil_append] at hOE
             rw [show 0 + rn.length = rn.length from Nat.zero_add _]
             have H := E006.drop (L' := (bR g7 ra X x.length cx :: bA g4 rt R rn.length cr :: bN g3 n A l.length ca B ts.length cb C ns.length cc hd :: Lf)) Sb.out)
          refine OPS.nil ?_
          refine ⟨(by exact H), ?_⟩
          refine OPH.all [9, 14] (by kernel_rfl) (by simp) rfl ?_
          intro i hi; simp only [List.mem_cons, List.not_mem_nil, or_false] at hi
          rcases hi with rfl | rfl
          · refine ⟨_, rfl, ?_⟩
            first
            | (refine OPS.append (m := 1) (news := [I more]) (R := bR g9 0 none 0 0 :: (bM g40 [I more] :: ((bR g7 ra X x.length cx :: bA g4 rt R rn.length cr :: bN g3 n A l.length ca B ts.length cb C ns.length cc hd :: Lf)))) rfl rfl rfl rfl rfl (sl_run rfl) rfl rfl hOE rfl (src_own E116 1 rfl) rfl (by omega) (by unfold maxLen; omega) E116 (List.Perm.refl _) ?_
               clear H hOE; intro AE ce Le w hOE E1
               rw [show rn.map I ++ [I more] = (rn ++ [more]).map I by simp] at hOE
               have E119 : SH w0 [] w (bR g9 0 none 0 0 :: (bM g40 [I more] :: ((bR g7 ra X x.length cx :: bA g4 rt R rn.length cr :: bN g3 n A l.length ca B ts.length cb C ns.length cc hd :: Lf) ++ Le))) := E1
               clear E1 E116
               have H := E119.drop (L' := (bR g7 ra X x.length cx :: bA g4 rt R rn.length cr :: bN g3 n A l.length ca B ts.length cb C ns.length cc hd :: Lf)) Sb.out)
            | (refine OPS.append (m := 1) (news := [I more]) (R := bM g40 [I more] :: ((bR g7 ra X x.length cx :: bA g4 rt R rn.length cr :: bN g3 n A l.length ca B ts.length cb C ns.length cc hd :: Lf))) rfl rfl rfl rfl rfl (sl_run rfl) rfl rfl hOE rfl (src_own E016 0 rfl) rfl (by omega) (by unfold maxLen; omega) E016 (List.Perm.refl _) ?_
               clear H hOE; intro AE ce Le w hOE E1
               rw [show rn.map I ++ [I more] = (rn ++ [more]).map I by simp] at hOE
               have E019 : SH w0 [] w (bM g40 [I more] :: ((bR g7 ra X x.length cx :: bA g4 rt R rn.length cr :: bN g3 n A l.length ca B ts.length cb C ns.length cc hd :: Lf) ++ Le)) := E1
               clear E1 E016
               have H := E019.drop (L' := (bR g7 ra X x.length cx :: bA g4 rt R rn.length cr :: bN g3 n A l.length ca B ts.length cb C ns.length cc hd :: Lf)) Sb.out)
            refine OPS.nil ?_
            refine ⟨(by exact H), ?_⟩
            refine OPH.all [10, 14] (by kernel_rfl) (by simp) rfl ?_
            intro i hi; simp only [List.mem_cons, List.not_mem_nil, or_false] at hi
            rcases hi with rfl | rfl
            · refine ⟨_, rfl, ?_⟩
              first
              | (refine OPS.call (d := some 42) rfl rfl rfl (EvC.func (fun_run rfl)) (hmk w AE ce (hz.sh E119) (ht.sh E119) (hn.sh E119) (ownS_at hOE E119 Sb.out)) ?_
                 rintro _ w ⟨eb, rb, y, Y, cy, Lm, rfl, hM, hOY, Hc⟩
                 refine ⟨_, rfl, ?_⟩
                 have E1 := SH.call (L1 := bR g9 0 none 0 0 :: ((bR g7 ra X x.length cx :: bA g4 rt R rn.length cr :: bN g3 n A l.length ca B ts.length cb C ns.length cc hd :: Lf))) (Lv := []) (by rw [List.append_nil]; exact E119.drop (List.Sublist.cons_cons _ Sb.out)) Hc
                 have E10X : SH w0 [] w (bR g9 0 none 0 0 :: ((bR g7 ra X x.length cx :: bA g4 rt R rn.length cr :: bN g3 n A l.length ca B ts.length cb C ns.length cc hd :: Lf) ++ Lm)) := E1
                 clear E1 Hc H E119
                 have H := E10X.drop (L' := (bR g7 ra X x.length cx :: bA g4 rt R rn.length cr :: bN g3 n A l.length ca B ts.length cb C ns.length cc hd :: Lf)) Sb.out)
              | (refine OPS.call (d := some 42) rfl rfl rfl (EvC.func (fun_run rfl)) (hmk w AE ce (hz.sh E019) (ht.sh E019) (hn.sh E019) (ownS_at hOE E019 Sb.out)) ?_
                 rintro _ w ⟨eb, rb, y, Y, cy, Lm, rfl, hM, hOY, Hc⟩
                 refine ⟨_, rfl, ?_⟩
                 have E1 := SH.call (L1 := (bR g7 ra X x.length cx :: bA g4 rt R rn.length cr :: bN g3 n A l.length ca B ts.length cb C ns.length cc hd :: Lf)) (Lv := []) (by rw [List.append_nil]; exact E019.drop (Sb.out)) Hc
                 have E00X : SH w0 [] w ((bR g7 ra X x.length cx :: bA g4 rt R rn.length cr :: bN g3 n A l.length ca B ts.length cb C ns.length cc hd :: Lf) ++ Lm) := E1
                 clear E1 Hc H E019
                 have H := E00X.drop (L' := (bR g7 ra X x.length cx :: bA g4 rt R rn.length cr :: bN g3 n A l.length ca B ts.length cb C ns.length cc hd :: Lf)) Sb.out)
              refine OPS.nil ?_
              refine ⟨(by exact H), ?_⟩
              refine OPH.take 11 rfl rfl rfl rfl (by kernel_rfl) (by kernel_rfl) (by kernel_rfl) rfl (by exact H) (fun w H => Ev.mvT rfl) ?_
              refine OPH.take 12 rfl rfl rfl rfl (by kernel_rfl) (by kernel_rfl) (by kernel_rfl) rfl (by exact H) (fun w H => Ev.extract rfl rfl) ?_
              refine OPH.take 13 rfl rfl rfl rfl (by kernel_rfl) (by kernel_rfl) (by kernel_rfl) rfl (by exact H) (fun w H => Ev.extract rfl rfl) ?_
              refine OPH.all [14] (by kernel_rfl) (by simp) rfl ?_
              intro i hi; simp only [List.mem_cons, List.not_mem_nil, or_false] at hi
              rcases hi with rfl
              · refine ⟨_, rfl, ?_⟩
                first
                | (refine OPS.alloc rfl rfl rfl rfl (zero_run rfl) rfl E00X ?_
                   clear H; intro g9 w E1
                   have E10X : SH w0 [] w (bR g9 0 none 0 0 :: ((bR g7 ra X x.length cx :: bA g4 rt R rn.length cr :: bN g3 n A l.length ca B ts.length cb C ns.length cc hd :: Lf) ++ Lm)) := E1
                   clear E1 E00X
                   have H := E10X.drop (L' := (bR g7 ra X x.length cx :: bA g4 rt R rn.length cr :: bN g3 n A l.length ca B ts.length cb C ns.length cc hd :: Lf)) Sb.out)
                | (refine OPS.alloc rfl rfl rfl rfl (zero_run rfl) rfl E019 ?_
                   clear H; intro g9 w E1
                   have E119 : SH w0 [] w (bR g9 0 none 0 0 :: (bM g40 [I more] :: ((bR g7 ra X x.length cx :: bA g4 rt R rn.length cr :: bN g3 n A l.length ca B ts.length cb C ns.length cc hd :: Lf) ++ Le))) := E1
                   clear E1 E019
                   have H := E119.drop (L' := (bR g7 ra X x.length cx :: bA g4 rt R rn.length cr :: bN g3 n A l.length ca B ts.length cb C ns.length cc hd :: Lf)) Sb.out)
                | (refine OPS.alloc rfl rfl rfl rfl (zero_run rfl) rfl E016 ?_
                   clear H; intro g9 w E1
                   have E116 : SH w0 [] w (bR g9 0 none 0 0 :: (bM g40 [I more] :: ((bR g7 ra X x.length cx :: bA g4 rt R rn.length cr :: bN g3 n A l.length ca B ts.length cb C ns.length cc hd :: Lf) ++ Le))) := E1
                   clear E1 E016
                   have H := E116.drop (L' := (bR g7 ra X x.length cx :: bA g4 rt R rn.length cr :: bN g3 n A l.length ca B ts.length cb C ns.length cc hd :: Lf)) Sb.out)
                | (refine OPS.alloc rfl rfl rfl rfl (zero_run rfl) rfl E006 ?_
                   clear H; intro g9 w E1
                   have E106 : SH w0 [] w (bR g9 0 none 0 0 :: ((bR g7 ra X x.length cx :: bA g4 rt R rn.length cr :: bN g3 n A l.length ca B ts.length cb C ns.length cc hd :: Lf) ++ Le)) := E1
                   clear E1 E006
                   have H := E106.drop (L' := (bR g7 ra X x.length cx :: bA g4 rt R rn.length cr :: bN g3 n A l.length ca B ts.length cb C ns.length cc hd :: Lf)) Sb.out)
                | (refine OPS.alloc rfl rfl rfl rfl (zero_run rfl) rfl E013 ?_
                   clear H; intro g9 w E1
                   have E113 : SH w0 [] w (bR g9 0 none 0 0 :: (bM g40 [I more] :: ((bR g7 ra X x.length cx :: bA g4 rt R rn.length cr :: bN g3 n A l.length ca B ts.length cb C ns.length cc hd :: Lf) ++ [⟨g35, 3, []⟩]))) := E1
                   clear E1 E013
                   have H := E113.drop (L' := (bR g7 ra X x.length cx :: bA g4 rt R rn.length cr :: bN g3 n A l.length ca B ts.length cb C ns.length cc hd :: Lf)) Sb.out)
                | (refine OPS.alloc rfl rfl rfl rfl (zero_run rfl) rfl E003 ?_
                   clear H; intro g9 w E1
                   have E103 : SH w0 [] w (bR g9 0 none 0 0 :: ((bR g7 ra X x.length cx :: bA g4 rt R rn.length cr :: bN g3 n A l.length ca B ts.length cb C ns.length cc hd :: Lf) ++ [⟨g35, 3, []⟩])) := E1
                   clear E1 E003
                   have H := E103.drop (L' := (bR g7 ra X x.length cx :: bA g4 rt R rn.length cr :: bN g3 n A l.length ca B ts.length cb C ns.length cc hd :: Lf)) Sb.out)
                | (refine OPS.alloc rfl rfl rfl rfl (zero_run rfl) rfl E010 ?_
                   clear H; intro g9 w E1
                   have E110 : SH w0 [] w (bR g9 0 none 0 0 :: (bM g40 [I more] :: ((bR g7 ra X x.length cx :: bA g4 rt R rn.length cr :: bN g3 n A l.length ca B ts.length cb C ns.length cc hd :: Lf)))) := E1
                   clear E1 E010
                   have H := E110.drop (L' := (bR g7 ra X x.length cx :: bA g4 rt R rn.length cr :: bN g3 n A l.length ca B ts.length cb C ns.length cc hd :: Lf)) Sb.out)
                | (refine OPS.alloc rfl rfl rfl rfl (zero_run rfl) rfl (E000.toBelow hbw4) ?_
                   clear H; intro g9 w E1
                   have E100 : SH w0 [] w (bR g9 0 none 0 0 :: ((bR g7 ra X x.length cx :: bA g4 rt R rn.length cr :: bN g3 n A l.length ca B ts.length cb C ns.length cc hd :: Lf))) := E1
                   clear E1 E000
                   have H := E100.drop (L' := (bR g7 ra X x.length cx :: bA g4 rt R rn.length cr :: bN g3 n A l.length ca B ts.length cb C ns.length cc hd :: Lf)) Sb.out)
                refine OPS.nil ?_
                refine ⟨(by exact H), ?_⟩
                refine OPH.all [15] (by kernel_rfl) (by simp) rfl ?_
                intro i hi; simp only [List.mem_cons, List.not_mem_nil, or_false] at hi
                rcases hi with rfl
                · refine ⟨_, rfl, ?_⟩
                  refine OPS.store 0 _ rfl rfl rfl (size_run rfl) rfl (cA rfl) rfl rfl E10X rfl (by simp) ?_
                  clear H; intro w E1; clear E10X
                  simp only [List.set_cons_zero, putL] at E1
                  have H := E1.drop (L' := (bR g7 ra X x.length cx :: bA g4 rt R rn.length cr :: bN g3 n A l.length ca B ts.length cb C ns.length cc hd :: Lf)) Sb.out
                  refine OPS.nil ?_
                  refine ⟨(by exact H), ?_⟩
                  refine OPH.take 16 rfl rfl rfl rfl (by kernel_rfl) (by kernel_rfl) (by kernel_rfl) rfl (by exact H) (fun w H => Ev.asI rfl) ?_
                  refine OPH.done (by kernel_rfl) ?_
                  exact ⟨(by repeat (first | exact Agree.refl _ _ | exact Agree.mix _ _ _ | refine Agree.upd rfl ?_ | refine Agree.mix2 rfl ?_)), eb, rb, y, Y, cy, Lm, g9, rfl, rfl, hM, hOY, E1⟩
            · refine ⟨_, rfl, ?_⟩
              first
              | (refine OPS.alloc rfl rfl rfl rfl (zero_run rfl) rfl E00X ?_
                 clear H; intro g9 w E1
                 have E10X : SH w0 [] w (bR g9 0 none 0 0 :: ((bR g7 ra X x.length cx :: bA g4 rt R rn.length cr :: bN g3 n A l.length ca B ts.length cb C ns.length cc hd :: Lf) ++ Lm)) := E1
                 clear E1 E00X
                 have H := E10X.drop (L' := (bR g7 ra X x.length cx :: bA g4 rt R rn.length cr :: bN g3 n A l.length ca B ts.length cb C ns.length cc hd :: Lf)) Sb.out)
              | (refine OPS.alloc rfl rfl rfl rfl (zero_run rfl) rfl E019 ?_
                 clear H; intro g9 w E1
                 have E119 : SH w0 [] w (bR g9 0 none 0 0 :: (bM g40 [I more] :: ((bR g7 ra X x.length cx :: bA g4 rt R rn.length cr :: bN g3 n A l.length ca B ts.length cb C ns.length cc hd :: Lf) ++ Le))) := E1
                 clear E1 E019
                 have H := E119.drop (L' := (bR g7 ra X x.length cx :: bA g4 rt R rn.length cr :: bN g3 n A l.length ca B ts.length cb C ns.length cc hd :: Lf)) Sb.out)
              | (refine OPS.alloc rfl rfl rfl rfl (zero_run rfl) rfl E016 ?_
                 clear H; intro g9 w E1
                 have E116 : SH w0 [] w (bR g9 0 none 0 0 :: (bM g40 [I more] :: ((bR g7 ra X x.length cx :: bA g4 rt R rn.length cr :: bN g3 n A l.length ca B ts.length cb C ns.length cc hd :: Lf) ++ Le))) := E1
                 clear E1 E016
                 have H := E116.drop (L' := (bR g7 ra X x.length cx :: bA g4 rt R rn.length cr :: bN g3 n A l.length ca B ts.length cb C ns.length cc hd :: Lf)) Sb.out)
              | (refine OPS.alloc rfl rfl rfl rfl (zero_run rfl) rfl E006 ?_
                 clear H; intro g9 w E1
                 have E106 : SH w0 [] w (bR g9 0 none 0 0 :: ((bR g7 ra X x.length cx :: bA g4 rt R rn.length cr :: bN g3 n A l.length ca B ts.length cb C ns.length cc hd :: Lf) ++ Le)) := E1
                 clear E1 E006
                 have H := E106.drop (L' := (bR g7 ra X x.length cx :: bA g4 rt R rn.length cr :: bN g3 n A l.length ca B ts.length cb C ns.length cc hd :: Lf)) Sb.out)
              | (refine OPS.alloc rfl rfl rfl rfl (zero_run rfl) rfl E013 ?_
                 clear H; intro g9 w E1
                 have E113 : SH w0 [] w (bR g9 0 none 0 0 :: (bM g40 [I more] :: ((bR g7 ra X x.length cx :: bA g4 rt R rn.length cr :: bN g3 n A l.length ca B ts.length cb C ns.length cc hd :: Lf) ++ [⟨g35, 3, []⟩]))) := E1
                 clear E1 E013
                 have H := E113.drop (L' := (bR g7 ra X x.length cx :: bA g4 rt R rn.length cr :: bN g3 n A l.length ca B ts.length cb C ns.length cc hd :: Lf)) Sb.out)
              | (refine OPS.alloc rfl rfl rfl rfl (zero_run rfl) rfl E003 ?_
                 clear H; intro g9 w E1
                 have E103 : SH w0 [] w (bR g9 0 none 0 0 :: ((bR g7 ra X x.length cx :: bA g4 rt R rn.length cr :: bN g3 n A l.length ca B ts.length cb C ns.length cc hd :: Lf) ++ [⟨g35, 3, []⟩])) := E1
                 clear E1 E003
                 have H := E103.drop (L' := (bR g7 ra X x.length cx :: bA g4 rt R rn.length cr :: bN g3 n A l.length ca B ts.length cb C ns.length cc hd :: Lf)) Sb.out)
              | (refine OPS.alloc rfl rfl rfl rfl (zero_run rfl) rfl E010 ?_
                 clear H; intro g9 w E1
                 have E110 : SH w0 [] w (bR g9 0 none 0 0 :: (bM g40 [I more] :: ((bR g7 ra X x.length cx :: bA g4 rt R rn.length cr :: bN g3 n A l.length ca B ts.length cb C ns.length cc hd :: Lf)))) := E1
                 clear E1 E010
                 have H := E110.drop (L' := (bR g7 ra X x.length cx :: bA g4 rt R rn.length cr :: bN g3 n A l.length ca B ts.length cb C ns.length cc hd :: Lf)) Sb.out)
              | (refine OPS.alloc rfl rfl rfl rfl (zero_run rfl) rfl (E000.toBelow hbw4) ?_
                 clear H; intro g9 w E1
                 have E100 : SH w0 [] w (bR g9 0 none 0 0 :: ((bR g7 ra X x.length cx :: bA g4 rt R rn.length cr :: bN g3 n A l.length ca B ts.length cb C ns.length cc hd :: Lf))) := E1
                 clear E1 E000
                 have H := E100.drop (L' := (bR g7 ra X x.length cx :: bA g4 rt R rn.length cr :: bN g3 n A l.length ca B ts.length cb C ns.length cc hd :: Lf)) Sb.out)
              refine OPS.nil ?_
              refine ⟨(by exact H), ?_⟩
              refine OPH.all [10] (by kernel_rfl) (by simp) rfl ?_
              intro i hi; simp only [List.mem_cons, List.not_mem_nil, or_false] at hi
              rcases hi with rfl
              · refine ⟨_, rfl, ?_⟩
                first
                | (refine OPS.call (d := some 42) rfl rfl rfl (EvC.func (fun_run rfl)) (hmk w AE ce (hz.sh E119) (ht.sh E119) (hn.sh E119) (ownS_at hOE E119 Sb.out)) ?_
                   rintro _ w ⟨eb, rb, y, Y, cy, Lm, rfl, hM, hOY, Hc⟩
                   refine ⟨_, rfl, ?_⟩
                   have E1 := SH.call (L1 := bR g9 0 none 0 0 :: ((bR g7 ra X x.length cx :: bA g4 rt R rn.length cr :: bN g3 n A l.length ca B ts.length cb C ns.length cc hd :: Lf))) (Lv := []) (by rw [List.append_nil]; exact E119.drop (List.Sublist.cons_cons _ Sb.out)) Hc
                   have E10X : SH w0 [] w (bR g9 0 none 0 0 :: ((bR g7 ra X x.length cx :: bA g4 rt R rn.length cr :: bN g3 n A l.length ca B ts.length cb C ns.length cc hd :: Lf) ++ Lm)) := E1
                   clear E1 Hc H E119
                   have H := E10X.drop (L' := (bR g7 ra X x.length cx :: bA g4 rt R rn.length cr :: bN g3 n A l.length ca B ts.length cb C ns.length cc hd :: Lf)) Sb.out)
                | (refine OPS.call (d := some 42) rfl rfl rfl (EvC.func (fun_run rfl)) (hmk w AE ce (hz.sh E019) (ht.sh E019) (hn.sh E019) (ownS_at hOE E019 Sb.out)) ?_
                   rintro _ w ⟨eb, rb, y, Y, cy, Lm, rfl, hM, hOY, Hc⟩
                   refine ⟨_, rfl, ?_⟩
                   have E1 := SH.call (L1 := (bR g7 ra X x.length cx :: bA g4 rt R rn.length cr :: bN g3 n A l.length ca B ts.length cb C ns.length cc hd :: Lf)) (Lv := []) (by rw [List.append_nil]; exact E019.drop (Sb.out)) Hc
                   have E00X : SH w0 [] w ((bR g7 ra X x.length cx :: bA g4 rt R rn.length cr :: bN g3 n A l.length ca B ts.length cb C ns.length cc hd :: Lf) ++ Lm) := E1
                   clear E1 Hc H E019
                   have H := E00X.drop (L' := (bR g7 ra X x.length cx :: bA g4 rt R rn.length cr :: bN g3 n A l.length ca B ts.length cb C ns.length cc hd :: Lf)) Sb.out)
                refine OPS.nil ?_
                refine ⟨(by exact H), ?_⟩
                refine OPH.take 11 rfl rfl rfl rfl (by kernel_rfl) (by kernel_rfl) (by kernel_rfl) rfl (by exact H) (fun w H => Ev.mvT rfl) ?_
                refine OPH.take 12 rfl rfl rfl rfl (by kernel_rfl) (by kernel_rfl) (by kernel_rfl) rfl (by exact H) (fun w H => Ev.extract rfl rfl) ?_
                refine OPH.take 13 rfl rfl rfl rfl (by kernel_rfl) (by kernel_rfl) (by kernel_rfl) rfl (by exact H) (fun w H => Ev.extract rfl rfl) ?_
                refine OPH.all [15] (by kernel_rfl) (by simp) rfl ?_
                intro i hi; simp only [List.mem_cons, List.not_mem_nil, or_false] at hi
                rcases hi with rfl
                · refine ⟨_, rfl, ?_⟩
                  refine OPS.store 0 _ rfl rfl rfl (size_run rfl) rfl (cA rfl) rfl rfl E10X rfl (by simp) ?_
                  clear H; intro w E1; clear E10X
                  simp only [List.set_cons_zero, putL] at E1
                  have H := E1.drop (L' := (bR g7 ra X x.length cx :: bA g4 rt R rn.length cr :: bN g3 n A l.length ca B ts.length cb C ns.length cc hd :: Lf)) Sb.out
                  refine OPS.nil ?_
                  refine ⟨(by exact H), ?_⟩
                  refine OPH.take 16 rfl rfl rfl rfl (by kernel_rfl) (by kernel_rfl) (by kernel_rfl) rfl (by exact H) (fun w H => Ev.asI rfl) ?_
                  refine OPH.done (by kernel_rfl) ?_
                  exact ⟨(by repeat (first | exact Agree.refl _ _ | exact Agree.mix _ _ _ | refine Agree.upd rfl ?_ | refine Agree.mix2 rfl ?_)), eb, rb, y, Y, cy, Lm, g9, rfl, rfl, hM, hOY, E1⟩
          · refine ⟨_, rfl, ?_⟩
            first
            | (refine OPS.alloc rfl rfl rfl rfl (zero_run rfl) rfl E00X ?_
               clear H; intro g9 w E1
               have E10X : SH w0 [] w (bR g9 0 none 0 0 :: ((bR g7 ra X x.length cx :: bA g4 rt R rn.length cr :: bN g3 n A l.length ca B ts.length cb C ns.length cc hd :: Lf) ++ Lm)) := E1
               clear E1 E00X
               have H := E10X.drop (L' := (bR g7 ra X x.length cx :: bA g4 rt R rn.length cr :: bN g3 n A l.length ca B ts.length cb C ns.length cc hd :: Lf)) Sb.out)
            | (refine OPS.alloc rfl rfl rfl rfl (zero_run rfl) rfl E019 ?_
               clear H; intro g9 w E1
               have E119 : SH w0 [] w (bR g9 0 none 0 0 :: (bM g40 [I more] :: ((bR g7 ra X x.length cx :: bA g4 rt R rn.length cr :: bN g3 n A l.length ca B ts.length cb C ns.length cc hd :: Lf) ++ Le))) := E1
               clear E1 E019
               have H := E119.drop (L' := (bR g7 ra X x.length cx :: bA g4 rt R rn.length cr :: bN g3 n A l.length ca B ts.length cb C ns.length cc hd :: Lf)) Sb.out)
            | (refine OPS.alloc rfl rfl rfl rfl (zero_run rfl) rfl E016 ?_
               clear H; intro g9 w E1
               have E116 : SH w0 [] w (bR g9 0 none 0 0 :: (bM g40 [I more] :: ((bR g7 ra X x.length cx :: bA g4 rt R rn.length cr :: bN g3 n A l.length ca B ts.length cb C ns.length cc hd :: Lf) ++ Le))) := E1
               clear E1 E016
               have H := E116.drop (L' := (bR g7 ra X x.length cx :: bA g4 rt R rn.length cr :: bN g3 n A l.length ca B ts.length cb C ns.length cc hd :: Lf)) Sb.out)
            | (refine OPS.alloc rfl rfl rfl rfl (zero_run rfl) rfl E006 ?_
               clear H; intro g9 w E1
               have E106 : SH w0 [] w (bR g9 0 none 0 0 :: ((bR g7 ra X x.length cx :: bA g4 rt R rn.length cr :: bN g3 n A l.length ca B ts.length cb C ns.length cc hd :: Lf) ++ Le)) := E1
               clear E1 E006
               have H := E106.drop (L' := (bR g7 ra X x.length cx :: bA g4 rt R rn.length cr :: bN g3 n A l.length ca B ts.length cb C ns.length cc hd :: Lf)) Sb.out)
            | (refine OPS.alloc rfl rfl rfl rfl (zero_run rfl) rfl E013 ?_
               clear H; intro g9 w E1
               have E113 : SH w0 [] w (bR g9 0 none 0 0 :: (bM g40 [I more] :: ((bR g7 ra X x.length cx :: bA g4 rt R rn.length cr :: bN g3 n A l.length ca B ts.length cb C ns.length cc hd :: Lf) ++ [⟨g35, 3, []⟩]))) := E1
               clear E1 E013
               have H := E113.drop (L' := (bR g7 ra X x.length cx :: bA g4 rt R rn.length cr :: bN g3 n A l.length ca B ts.length cb C ns.length cc hd :: Lf)) Sb.out)
            | (refine OPS.alloc rfl rfl rfl rfl (zero_run rfl) rfl E003 ?_
               clear H; intro g9 w E1
               have E103 : SH w0 [] w (bR g9 0 none 0 0 :: ((bR g7 ra X x.length cx :: bA g4 rt R rn.length cr :: bN g3 n A l.length ca B ts.length cb C ns.length cc hd :: Lf) ++ [⟨g35, 3, []⟩])) := E1
               clear E1 E003
               have H := E103.drop (L' := (bR g7 ra X x.length cx :: bA g4 rt R rn.length cr :: bN g3 n A l.length ca B ts.length cb C ns.length cc hd :: Lf)) Sb.out)
            | (refine OPS.alloc rfl rfl rfl rfl (zero_run rfl) rfl E010 ?_
               clear H; intro g9 w E1
               have E110 : SH w0 [] w (bR g9 0 none 0 0 :: (bM g40 [I more] :: ((bR g7 ra X x.length cx :: bA g4 rt R rn.length cr :: bN g3 n A l.length ca B ts.length cb C ns.length cc hd :: Lf)))) := E1
               clear E1 E010
               have H := E110.drop (L' := (bR g7 ra X x.length cx :: bA g4 rt R rn.length cr :: bN g3 n A l.length ca B ts.length cb C ns.length cc hd :: Lf)) Sb.out)
            | (refine OPS.alloc rfl rfl rfl rfl (zero_run rfl) rfl (E000.toBelow hbw4) ?_
               clear H; intro g9 w E1
               have E100 : SH w0 [] w (bR g9 0 none 0 0 :: ((bR g7 ra X x.length cx :: bA g4 rt R rn.length cr :: bN g3 n A l.length ca B ts.length cb C ns.length cc hd :: Lf))) := E1
               clear E1 E000
               have H := E100.drop (L' := (bR g7 ra X x.length cx :: bA g4 rt R rn.length cr :: bN g3 n A l.length ca B ts.length cb C ns.length cc hd :: Lf)) Sb.out)
            refine OPS.nil ?_
            refine ⟨(by exact H), ?_⟩
            refine OPH.all [9] (by kernel_rfl) (by simp) rfl ?_
            intro i hi; simp only [List.mem_cons, List.not_mem_nil, or_false] at hi
            rcases hi with rfl
            · refine ⟨_, rfl, ?_⟩
              first
              | (refine OPS.append (m := 1) (news := [I more]) (R := bR g9 0 none 0 0 :: (bM g40 [I more] :: ((bR g7 ra X x.length cx :: bA g4 rt R rn.length cr :: bN g3 n A l.length ca B ts.length cb C ns.length cc hd :: Lf)))) rfl rfl rfl rfl rfl (sl_run rfl) rfl rfl hOE rfl (src_own E116 1 rfl) rfl (by omega) (by unfold maxLen; omega) E116 (List.Perm.refl _) ?_
                 clear H hOE; intro AE ce Le w hOE E1
                 rw [show rn.map I ++ [I more] = (rn ++ [more]).map I by simp] at hOE
                 have E119 : SH w0 [] w (bR g9 0 none 0 0 :: (bM g40 [I more] :: ((bR g7 ra X x.length cx :: bA g4 rt R rn.length cr :: bN g3 n A l.length ca B ts.length cb C ns.length cc hd :: Lf) ++ Le))) := E1
                 clear E1 E116
                 have H := E119.drop (L' := (bR g7 ra X x.length cx :: bA g4 rt R rn.length cr :: bN g3 n A l.length ca B ts.length cb C ns.length cc hd :: Lf)) Sb.out)
              | (refine OPS.append (m := 1) (news := [I more]) (R := bM g40 [I more] :: ((bR g7 ra X x.length cx :: bA g4 rt R rn.length cr :: bN g3 n A l.length ca B ts.length cb C ns.length cc hd :: Lf))) rfl rfl rfl rfl rfl (sl_run rfl) rfl rfl hOE rfl (src_own E016 0 rfl) rfl (by omega) (by unfold maxLen; omega) E016 (List.Perm.refl _) ?_
                 clear H hOE; intro AE ce Le w hOE E1
                 rw [show rn.map I ++ [I more] = (rn ++ [more]).map I by simp] at hOE
                 have E019 : SH w0 [] w (bM g40 [I more] :: ((bR g7 ra X x.length cx :: bA g4 rt R rn.length cr :: bN g3 n A l.length ca B ts.length cb C ns.length cc hd :: Lf) ++ Le)) := E1
                 clear E1 E016
                 have H := E019.drop (L' := (bR g7 ra X x.length cx :: bA g4 rt R rn.length cr :: bN g3 n A l.length ca B ts.length cb C ns.length cc hd :: Lf)) Sb.out)
              refine OPS.nil ?_
              refine ⟨(by exact H), ?_⟩
              refine OPH.all [10] (by kernel_rfl) (by simp) rfl ?_
              intro i hi; simp only [List.mem_cons, List.not_mem_nil, or_false] at hi
              rcases hi with rfl
              · refine ⟨_, rfl, ?_⟩
                first
                | (refine OPS.call (d := some 42) rfl rfl rfl (EvC.func (fun_run rfl)) (hmk w AE ce (hz.sh E119) (ht.sh E119) (hn.sh E119) (ownS_at hOE E119 Sb.out)) ?_
                   rintro _ w ⟨eb, rb, y, Y, cy, Lm, rfl, hM, hOY, Hc⟩
                   refine ⟨_, rfl, ?_⟩
                   have E1 := SH.call (L1 := bR g9 0 none 0 0 :: ((bR g7 ra X x.length cx :: bA g4 rt R rn.length cr :: bN g3 n A l.length ca B ts.length cb C ns.length cc hd :: Lf))) (Lv := []) (by rw [List.append_nil]; exact E119.drop (List.Sublist.cons_cons _ Sb.out)) Hc
                   have E10X : SH w0 [] w (bR g9 0 none 0 0 :: ((bR g7 ra X x.length cx :: bA g4 rt R rn.length cr :: bN g3 n A l.length ca B ts.length cb C ns.length cc hd :: Lf) ++ Lm)) := E1
                   clear E1 Hc H E119
                   have H := E10X.drop (L' := (bR g7 ra X x.length cx :: bA g4 rt R rn.length cr :: bN g3 n A l.length ca B ts.length cb C ns.length cc hd :: Lf)) Sb.out)
                | (refine OPS.call (d := some 42) rfl rfl rfl (EvC.func (fun_run rfl)) (hmk w AE ce (hz.sh E019) (ht.sh E019) (hn.sh E019) (ownS_at hOE E019 Sb.out)) ?_
                   rintro _ w ⟨eb, rb, y, Y, cy, Lm, rfl, hM, hOY, Hc⟩
                   refine ⟨_, rfl, ?_⟩
                   have E1 := SH.call (L1 := (bR g7 ra X x.length cx :: bA g4 rt R rn.length cr :: bN g3 n A l.length ca B ts.length cb C ns.length cc hd :: Lf)) (Lv := []) (by rw [List.append_nil]; exact E019.drop (Sb.out)) Hc
                   have E00X : SH w0 [] w ((bR g7 ra X x.length cx :: bA g4 rt R rn.length cr :: bN g3 n A l.length ca B ts.length cb C ns.length cc hd :: Lf) ++ Lm) := E1
                   clear E1 Hc H E019
                   have H := E00X.drop (L' := (bR g7 ra X x.length cx :: bA g4 rt R rn.length cr :: bN g3 n A l.length ca B ts.length cb C ns.length cc hd :: Lf)) Sb.out)
                refine OPS.nil ?_
                refine ⟨(by exact H), ?_⟩
                refine OPH.take 11 rfl rfl rfl rfl (by kernel_rfl) (by kernel_rfl) (by kernel_rfl) rfl (by exact H) (fun w H => Ev.mvT rfl) ?_
                refine OPH.take 12 rfl rfl rfl rfl (by kernel_rfl) (by kernel_rfl) (by kernel_rfl) rfl (by exact H) (fun w H => Ev.extract rfl rfl) ?_
                refine OPH.take 13 rfl rfl rfl rfl (by kernel_rfl) (by kernel_rfl) (by kernel_rfl) rfl (by exact H) (fun w H => Ev.extract rfl rfl) ?_
                refine OPH.all [15] (by kernel_rfl) (by simp) rfl ?_
                intro i hi; simp only [List.mem_cons, List.not_mem_nil, or_false] at hi
                rcases hi with rfl
                · refine ⟨_, rfl, ?_⟩
                  refine OPS.store 0 _ rfl rfl rfl (size_run rfl) rfl (cA rfl) rfl rfl E10X rfl (by simp) ?_
                  clear H; intro w E1; clear E10X
                  simp only [List.set_cons_zero, putL] at E1
                  have H := E1.drop (L' := (bR g7 ra X x.length cx :: bA g4 rt R rn.length cr :: bN g3 n A l.length ca B ts.length cb C ns.length cc hd :: Lf)) Sb.out
                  refine OPS.nil ?_
                  refine ⟨(by exact H), ?_⟩
                  refine OPH.take 16 rfl rfl rfl rfl (by kernel_rfl) (by kernel_rfl) (by kernel_rfl) rfl (by exact H) (fun w H => Ev.asI rfl) ?_
                  refine OPH.done (by kernel_rfl) ?_
                  exact ⟨(by repeat (first | exact Agree.refl _ _ | exact Agree.mix _ _ _ | refine Agree.upd rfl ?_ | refine Agree.mix2 rfl ?_)), eb, rb, y, Y, cy, Lm, g9, rfl, rfl, hM, hOY, E1⟩
        · refine ⟨_, rfl, ?_⟩
          first
          | (refine OPS.alloc rfl rfl rfl rfl (zero_run rfl) rfl E00X ?_
             clear H; intro g9 w E1
             have E10X : SH w0 [] w (bR g9 0 none 0 0 :: ((bR g7 ra X x.length cx :: bA g4 rt R rn.length cr :: bN g3 n A l.length ca B ts.length cb C ns.length cc hd :: Lf) ++ Lm)) := E1
             clear E1 E00X
             have H := E10X.drop (L' := (bR g7 ra X x.length cx :: bA g4 rt R rn.length cr :: bN g3 n A l.length ca B ts.length cb C ns.length cc hd :: Lf)) Sb.out)
          | (refine OPS.alloc rfl rfl rfl rfl (zero_run rfl) rfl E019 ?_
             clear H; intro g9 w E1
             have E119 : SH w0 [] w (bR g9 0 none 0 0 :: (bM g40 [I more] :: ((bR g7 ra X x.length cx :: bA g4 rt R rn.length cr :: bN g3 n A l.length ca B ts.length cb C ns.length cc hd :: Lf) ++ Le))) := E1
             clear E1 E019
             have H := E119.drop (L' := (bR g7 ra X x.length cx :: bA g4 rt R rn.length cr :: bN g3 n A l.length ca B ts.length cb C ns.length cc hd :: Lf)) Sb.out)
          | (refine OPS.alloc rfl rfl rfl rfl (zero_run rfl) rfl E016 ?_
             clear H; intro g9 w E1
             have E116 : SH w0 [] w (bR g9 0 none 0 0 :: (bM g40 [I more] :: ((bR g7 ra X x.length cx :: bA g4 rt R rn.length cr :: bN g3 n A l.length ca B ts.length cb C ns.length cc hd :: Lf) ++ Le))) := E1
             clear E1 E016
             have H := E116.drop (L' := (bR g7 ra X x.length cx :: bA g4 rt R rn.length cr :: bN g3 n A l.length ca B ts.length cb C ns.length cc hd :: Lf)) Sb.out)
          | (refine OPS.alloc rfl rfl rfl rfl (zero_run rfl) rfl E006 ?_
             clear H; intro g9 w E1
             have E106 : SH w0 [] w (bR g9 0 none 0 0 :: ((bR g7 ra X x.length cx :: bA g4 rt R rn.length cr :: bN g3 n A l.length ca B ts.length cb C ns.length cc hd :: Lf) ++ Le)) := E1
             clear E1 E006
             have H := E106.drop (L' := (bR g7 ra X x.length cx :: bA g4 rt R rn.length cr :: bN g3 n A l.length ca B ts.length cb C ns.length cc hd :: Lf)) Sb.out)
          | (refine OPS.alloc rfl rfl rfl rfl (zero_run rfl) rfl E013 ?_
             clear H; intro g9 w E1
             have E113 : SH w0 [] w (bR g9 0 none 0 0 :: (bM g40 [I more] :: ((bR g7 ra X x.length cx :: bA g4 rt R rn.length cr :: bN g3 n A l.length ca B ts.length cb C ns.length cc hd :: Lf) ++ [⟨g35, 3, []⟩]))) := E1
             clear E1 E013
             have H := E113.drop (L' := (bR g7 ra X x.length cx :: bA g4 rt R rn.length cr :: bN g3 n A l.length ca B ts.length cb C ns.length cc hd :: Lf)) Sb.out)
          | (refine OPS.alloc rfl rfl rfl rfl (zero_run rfl) rfl E003 ?_
             clear H; intro g9 w E1
             have E103 : SH w0 [] w (bR g9 0 none 0 0 :: ((bR g7 ra X x.length cx :: bA g4 rt R rn.length cr :: bN g3 n A l.length ca B ts.length cb C ns.length cc hd :: Lf) ++ [⟨g35, 3, []⟩])) := E1
             clear E1 E003
             have H := E103.drop (L' := (bR g7 ra X x.length cx :: bA g4 rt R rn.length cr :: bN g3 n A l.length ca B ts.length cb C ns.length cc hd :: Lf)) Sb.out)
          | (refine OPS.alloc rfl rfl rfl rfl (zero_run rfl) rfl E010 ?_
             clear H; intro g9 w E1
             have E110 : SH w0 [] w (bR g9 0 none 0 0 :: (bM g40 [I more] :: ((bR g7 ra X x.length cx :: bA g4 rt R rn.length cr :: bN g3 n A l.length ca B ts.length cb C ns.length cc hd :: Lf)))) := E1
             clear E1 E010
             have H := E110.drop (L' := (bR g7 ra X x.length cx :: bA g4 rt R rn.length cr :: bN g3 n A l.length ca B ts.length cb C ns.length cc hd :: Lf)) Sb.out)
          | (refine OPS.alloc rfl rfl rfl rfl (zero_run rfl) rfl (E000.toBelow hbw4) ?_
             clear H; intro g9 w E1
             have E100 : SH w0 [] w (bR g9 0 none 0 0 :: ((bR g7 ra X x.length cx :: bA g4 rt R rn.length cr :: bN g3 n A l.length ca B ts.length cb C ns.length cc hd :: Lf))) := E1
             clear E1 E000
             have H := E100.drop (L' := (bR g7 ra X x.length cx :: bA g4 rt R rn.length cr :: bN g3 n A l.length ca B ts.length cb C ns.length cc hd :: Lf)) Sb.out)
          refine OPS.nil ?_
          refine ⟨(by exact H), ?_⟩
          refine OPH.all [6] (by kernel_rfl) (by simp) rfl ?_
          intro i hi; simp only [List.mem_cons, List.not_mem_nil, or_false] at hi
          rcases hi with rfl
          · refine ⟨_, rfl, ?_⟩
            first
            | (refine OPS.appendE (m := rn.length) (news := rn.map I) (R := bR g9 0 none 0 0 :: (bM g40 [I more] :: ((bR g7 ra X x.length cx :: bA g4 rt R rn.length cr :: bN g3 n A l.length ca B ts.length cb C ns.length cc hd :: Lf)))) rfl rfl rfl rfl rfl (sl_run rfl) rfl rfl (OwnS.mt (g := g35)) (by simp) (intsFrom (hr.sh E113)) (intsOne rn) (by omega) (by unfold maxLen; omega) E113 (List.Perm.refl _) ?_
               clear H; intro AE ce Le w hOE E1
               have E116 : SH w0 [] w (bR g9 0 none 0 0 :: (bM g40 [I more] :: ((bR g7 ra X x.length cx :: bA g4 rt R rn.length cr :: bN g3 n A l.length ca B ts.length cb C ns.length cc hd :: Lf) ++ Le))) := E1
               clear E1 E113
               rw [Nat.zero_add, List.nil_append] at hOE
               rw [show 0 + rn.length = rn.length from Nat.zero_add _]
               have H := E116.drop (L' := (bR g7 ra X x.length cx :: bA g4 rt R rn.length cr :: bN g3 n A l.length ca B ts.length cb C ns.length cc hd :: Lf)) Sb.out)
            | (refine OPS.appendE (m := rn.length) (news := rn.map I) (R := bR g9 0 none 0 0 :: ((bR g7 ra X x.length cx :: bA g4 rt R rn.length cr :: bN g3 n A l.length ca B ts.length cb C ns.length cc hd :: Lf))) rfl rfl rfl rfl rfl (sl_run rfl) rfl rfl (OwnS.mt (g := g35)) (by simp) (intsFrom (hr.sh E103)) (intsOne rn) (by omega) (by unfold maxLen; omega) E103 (List.Perm.refl _) ?_
               clear H; intro AE ce Le w hOE E1
               have E106 : SH w0 [] w (bR g9 0 none 0 0 :: ((bR g7 ra X x.length cx :: bA g4 rt R rn.length cr :: bN g3 n A l.length ca B ts.length cb C ns.length cc hd :: Lf) ++ Le)) := E1
               clear E1 E103
               rw [Nat.zero_add, List.nil_append] at hOE
               rw [show 0 + rn.length = rn.length from Nat.zero_add _]
               have H := E106.drop (L' := (bR g7 ra X x.length cx :: bA g4 rt R rn.length cr :: bN g3 n A l.length ca B ts.length cb C ns.length cc hd :: Lf)) Sb.out)
            | (refine OPS.appendE (m := rn.length) (news := rn.map I) (R := bM g40 [I more] :: ((bR g7 ra X x.length cx :: bA g4 rt R rn.length cr :: bN g3 n A l.length ca B ts.length cb C ns.length cc hd :: Lf))) rfl rfl rfl rfl rfl (sl_run rfl) rfl rfl (OwnS.mt (g := g35)) (by simp) (intsFrom (hr.sh E013)) (intsOne rn) (by omega) (by unfold maxLen; omega) E013 (List.Perm.refl _) ?_
               clear H; intro AE ce Le w hOE E1
               have E016 : SH w0 [] w (bM g40 [I more] :: ((bR g7 ra X x.length cx :: bA g4 rt R rn.length cr :: bN g3 n A l.length ca B ts.length cb C ns.length cc hd :: Lf) ++ Le)) := E1
               clear E1 E013
               rw [Nat.zero_add, List.nil_append] at hOE
               rw [show 0 + rn.length = rn.length from Nat.zero_add _]
               have H := E016.drop (L' := (bR g7 ra X x.length cx :: bA g4 rt R rn.length cr :: bN g3 n A l.length ca B ts.length cb C ns.length cc hd :: Lf)) Sb.out)
            | (refine OPS.appendE (m := rn.length) (news := rn.map I) (R := (bR g7 ra X x.length cx :: bA g4 rt R rn.length cr :: bN g3 n A l.length ca B ts.length cb C ns.length cc hd :: Lf)) rfl rfl rfl rfl rfl (sl_run rfl) rfl rfl (OwnS.mt (g := g35)) (by simp) (intsFrom (hr.sh E003)) (intsOne rn) (by omega) (by unfold maxLen; omega) E003 (List.Perm.refl _) ?_
               clear H; intro AE ce Le w hOE E1
               have E006 : SH w0 [] w ((bR g7 ra X x.length cx :: bA g4 rt R rn.length cr :: bN g3 n A l.length ca B ts.length cb C ns.length cc hd :: Lf) ++ Le) := E1
               clear E1 E003
               rw [Nat.zero_add, List.nil_append] at hOE
               rw [show 0 + rn.length = rn.length from Nat.zero_add _]
               have H := E006.drop (L' := (bR g7 ra X x.length cx :: bA g4 rt R rn.length cr :: bN g3 n A l.length ca B ts.length cb C ns.length cc hd :: Lf)) Sb.out)
            refine OPS.nil ?_
            refine ⟨(by exact H), ?_⟩
            refine OPH.all [9] (by kernel_rfl) (by simp) rfl ?_
            intro i hi; simp only [List.mem_cons, List.not_mem_nil, or_false] at hi
            rcases hi with rfl
            · refine ⟨_, rfl, ?_⟩
              first
              | (refine OPS.append (m := 1) (news := [I more]) (R := bR g9 0 none 0 0 :: (bM g40 [I more] :: ((bR g7 ra X x.length cx :: bA g4 rt R rn.length cr :: bN g3 n A l.length ca B ts.length cb C ns.length cc hd :: Lf)))) rfl rfl rfl rfl rfl (sl_run rfl) rfl rfl hOE rfl (src_own E116 1 rfl) rfl (by omega) (by unfold maxLen; omega) E116 (List.Perm.refl _) ?_
                 clear H hOE; intro AE ce Le w hOE E1
                 rw [show rn.map I ++ [I more] = (rn ++ [more]).map I by simp] at hOE
                 have E119 : SH w0 [] w (bR g9 0 none 0 0 :: (bM g40 [I more] :: ((bR g7 ra X x.length cx :: bA g4 rt R rn.length cr :: bN g3 n A l.length ca B ts.length cb C ns.length cc hd :: Lf) ++ Le))) := E1
                 clear E1 E116
                 have H := E119.drop (L' := (bR g7 ra X x.length cx :: bA g4 rt R rn.length cr :: bN g3 n A l.length ca B ts.length cb C ns.length cc hd :: Lf)) Sb.out)
              | (refine OPS.append (m := 1) (news := [I more]) (R := bM g40 [I more] :: ((bR g7 ra X x.length cx :: bA g4 rt R rn.length cr :: bN g3 n A l.length ca B ts.length cb C ns.length cc hd :: Lf))) rfl rfl rfl rfl rfl (sl_run rfl) rfl rfl hOE rfl (src_own E016 0 rfl) rfl (by omega) (by unfold maxLen; omega) E016 (List.Perm.refl _) ?_
                 clear H hOE; intro AE ce Le w hOE E1
                 rw [show rn.map I ++ [I more] = (rn ++ [more]).map I by simp] at hOE
                 have E019 : SH w0 [] w (bM g40 [I more] :: ((bR g7 ra X x.length cx :: bA g4 rt R rn.length cr :: bN g3 n A l.length ca B ts.length cb C ns.length cc hd :: Lf) ++ Le)) := E1
                 clear E1 E016
                 have H := E019.drop (L' := (bR g7 ra X x.length cx :: bA g4 rt R rn.length cr :: bN g3 n A l.length ca B ts.length cb C ns.length cc hd :: Lf)) Sb.out)
              refine OPS.nil ?_
              refine ⟨(by exact H), ?_⟩
              refine OPH.all [10] (by kernel_rfl) (by simp) rfl ?_
              intro i hi; simp only [List.mem_cons, List.not_mem_nil, or_false] at hi
              rcases hi with rfl
              · refine ⟨_, rfl, ?_⟩
                first
                | (refine OPS.call (d := some 42) rfl rfl rfl (EvC.func (fun_run rfl)) (hmk w AE ce (hz.sh E119) (ht.sh E119) (hn.sh E119) (ownS_at hOE E119 Sb.out)) ?_
                   rintro _ w ⟨eb, rb, y, Y, cy, Lm, rfl, hM, hOY, Hc⟩
                   refine ⟨_, rfl, ?_⟩
                   have E1 := SH.call (L1 := bR g9 0 none 0 0 :: ((bR g7 ra X x.length cx :: bA g4 rt R rn.length cr :: bN g3 n A l.length ca B ts.length cb C ns.length cc hd :: Lf))) (Lv := []) (by rw [List.append_nil]; exact E119.drop (List.Sublist.cons_cons _ Sb.out)) Hc
                   have E10X : SH w0 [] w (bR g9 0 none 0 0 :: ((bR g7 ra X x.length cx :: bA g4 rt R rn.length cr :: bN g3 n A l.length ca B ts.length cb C ns.length cc hd :: Lf) ++ Lm)) := E1
                   clear E1 Hc H E119
                   have H := E10X.drop (L' := (bR g7 ra X x.length cx :: bA g4 rt R rn.length cr :: bN g3 n A l.length ca B ts.length cb C ns.length cc hd :: Lf)) Sb.out)
                | (refine OPS.call (d := some 42) rfl rfl rfl (EvC.func (fun_run rfl)) (hmk w AE ce (hz.sh E019) (ht.sh E019) (hn.sh E019) (ownS_at hOE E019 Sb.out)) ?_
                   rintro _ w ⟨eb, rb, y, Y, cy, Lm, rfl, hM, hOY, Hc⟩
                   refine ⟨_, rfl, ?_⟩
                   have E1 := SH.call (L1 := (bR g7 ra X x.length cx :: bA g4 rt R rn.length cr :: bN g3 n A l.length ca B ts.length cb C ns.length cc hd :: Lf)) (Lv := []) (by rw [List.append_nil]; exact E019.drop (Sb.out)) Hc
                   have E00X : SH w0 [] w ((bR g7 ra X x.length cx :: bA g4 rt R rn.length cr :: bN g3 n A l.length ca B ts.length cb C ns.length cc hd :: Lf) ++ Lm) := E1
                   clear E1 Hc H E019
                   have H := E00X.drop (L' := (bR g7 ra X x.length cx :: bA g4 rt R rn.length cr :: bN g3 n A l.length ca B ts.length cb C ns.length cc hd :: Lf)) Sb.out)
                refine OPS.nil ?_
                refine ⟨(by exact H), ?_⟩
                refine OPH.take 11 rfl rfl rfl rfl (by kernel_rfl) (by kernel_rfl) (by kernel_rfl) rfl (by exact H) (fun w H => Ev.mvT rfl) ?_
                refine OPH.take 12 rfl rfl rfl rfl (by kernel_rfl) (by kernel_rfl) (by kernel_rfl) rfl (by exact H) (fun w H => Ev.extract rfl rfl) ?_
                refine OPH.take 13 rfl rfl rfl rfl (by kernel_rfl) (by kernel_rfl) (by kernel_rfl) rfl (by exact H) (fun w H => Ev.extract rfl rfl) ?_
                refine OPH.all [15] (by kernel_rfl) (by simp) rfl ?_
                intro i hi; simp only [List.mem_cons, List.not_mem_nil, or_false] at hi
                rcases hi with rfl
                · refine ⟨_, rfl, ?_⟩
                  refine OPS.store 0 _ rfl rfl rfl (size_run rfl) rfl (cA rfl) rfl rfl E10X rfl (by simp) ?_
                  clear H; intro w E1; clear E10X
                  simp only [List.set_cons_zero, putL] at E1
                  have H := E1.drop (L' := (bR g7 ra X x.length cx :: bA g4 rt R rn.length cr :: bN g3 n A l.length ca B ts.length cb C ns.length cc hd :: Lf)) Sb.out
                  refine OPS.nil ?_
                  refine ⟨(by exact H), ?_⟩
                  refine OPH.take 16 rfl rfl rfl rfl (by kernel_rfl) (by kernel_rfl) (by kernel_rfl) rfl (by exact H) (fun w H => Ev.asI rfl) ?_
                  refine OPH.done (by kernel_rfl) ?_
                  exact ⟨(by repeat (first | exact Agree.refl _ _ | exact Agree.mix _ _ _ | refine Agree.upd rfl ?_ | refine Agree.mix2 rfl ?_)), eb, rb, y, Y, cy, Lm, g9, rfl, rfl, hM, hOY, E1⟩
      · refine ⟨_, rfl, ?_⟩
        first
        | (refine OPS.alloc rfl rfl rfl rfl (zero_run rfl) rfl E00X ?_
           clear H; intro g9 w E1
           have E10X : SH w0 [] w (bR g9 0 none 0 0 :: ((bR g7 ra X x.length cx :: bA g4 rt R rn.length cr :: bN g3 n A l.length ca B ts.length cb C ns.length cc hd :: Lf) ++ Lm)) := E1
           clear E1 E00X
           have H := E10X.drop (L' := (bR g7 ra X x.length cx :: bA g4 rt R rn.length cr :: bN g3 n A l.length ca B ts.length cb C ns.length cc hd :: Lf)) Sb.out)
        | (refine OPS.alloc rfl rfl rfl rfl (zero_run rfl) rfl E019 ?_
           clear H; intro g9 w E1
           have E119 : SH w0 [] w (bR g9 0 none 0 0 :: (bM g40 [I more] :: ((bR g7 ra X x.length cx :: bA g4 rt R rn.length cr :: bN g3 n A l.length ca B ts.length cb C ns.length cc hd :: Lf) ++ Le))) := E1
           clear E1 E019
           have H := E119.drop (L' := (bR g7 ra X x.length cx :: bA g4 rt R rn.length cr :: bN g3 n A l.length ca B ts.length cb C ns.length cc hd :: Lf)) Sb.out)
        | (refine OPS.alloc rfl rfl rfl rfl (zero_run rfl) rfl E016 ?_
           clear H; intro g9 w E1
           have E116 : SH w0 [] w (bR g9 0 none 0 0 :: (bM g40 [I more] :: ((bR g7 ra X x.length cx :: bA g4 rt R rn.length cr :: bN g3 n A l.length ca B ts.length cb C ns.length cc hd :: Lf) ++ Le))) := E1
           clear E1 E016
           have H := E116.drop (L' := (bR g7 ra X x.length cx :: bA g4 rt R rn.length cr :: bN g3 n A l.length ca B ts.length cb C ns.length cc hd :: Lf)) Sb.out)
        | (refine OPS.alloc rfl rfl rfl rfl (zero_run rfl) rfl E006 ?_
           clear H; intro g9 w E1
           have E106 : SH w0 [] w (bR g9 0 none 0 0 :: ((bR g7 ra X x.length cx :: bA g4 rt R rn.length cr :: bN g3 n A l.length ca B ts.length cb C ns.length cc hd :: Lf) ++ Le)) := E1
           clear E1 E006
           have H := E106.drop (L' := (bR g7 ra X x.length cx :: bA g4 rt R rn.length cr :: bN g3 n A l.length ca B ts.length cb C ns.length cc hd :: Lf)) Sb.out)
        | (refine OPS.alloc rfl rfl rfl rfl (zero_run rfl) rfl E013 ?_
           clear H; intro g9 w E1
           have E113 : SH w0 [] w (bR g9 0 none 0 0 :: (bM g40 [I more] :: ((bR g7 ra X x.length cx :: bA g4 rt R rn.length cr :: bN g3 n A l.length ca B ts.length cb C ns.length cc hd :: Lf) ++ [⟨g35, 3, []⟩]))) := E1
           clear E1 E013
           have H := E113.drop (L' := (bR g7 ra X x.length cx :: bA g4 rt R rn.length cr :: bN g3 n A l.length ca B ts.length cb C ns.length cc hd :: Lf)) Sb.out)
        | (refine OPS.alloc rfl rfl rfl rfl (zero_run rfl) rfl E003 ?_
           clear H; intro g9 w E1
           have E103 : SH w0 [] w (bR g9 0 none 0 0 :: ((bR g7 ra X x.length cx :: bA g4 rt R rn.length cr :: bN g3 n A l.length ca B ts.length cb C ns.length cc hd :: Lf) ++ [⟨g35, 3, []⟩])) := E1
           clear E1 E003
           have H := E103.drop (L' := (bR g7 ra X x.length cx :: bA g4 rt R rn.length cr :: bN g3 n A l.length ca B ts.length cb C ns.length cc hd :: Lf)) Sb.out)
        | (refine OPS.alloc rfl rfl rfl rfl (zero_run rfl) rfl E010 ?_
           clear H; intro g9 w E1
           have E110 : SH w0 [] w (bR g9 0 none 0 0 :: (bM g40 [I more] :: ((bR g7 ra X x.length cx :: bA g4 rt R rn.length cr :: bN g3 n A l.length ca B ts.length cb C ns.length cc hd :: Lf)))) := E1
           clear E1 E010
           have H := E110.drop (L' := (bR g7 ra X x.length cx :: bA g4 rt R rn.length cr :: bN g3 n A l.length ca B ts.length cb C ns.length cc hd :: Lf)) Sb.out)
        | (refine OPS.alloc rfl rfl rfl rfl (zero_run rfl) rfl (E000.toBelow hbw4) ?_
           clear H; intro g9 w E1
           have E100 : SH w0 [] w (bR g9 0 none 0 0 :: ((bR g7 ra X x.length cx :: bA g4 rt R rn.length cr :: bN g3 n A l.length ca B ts.length cb C ns.length cc hd :: Lf))) := E1
           clear E1 E000
           have H := E100.drop (L' := (bR g7 ra X x.length cx :: bA g4 rt R rn.length cr :: bN g3 n A l.length ca B ts.length cb C ns.length cc hd :: Lf)) Sb.out)
        refine OPS.nil ?_
        refine ⟨(by exact H), ?_⟩
        refine OPH.all [3] (by kernel_rfl) (by simp) rfl ?_
        intro i hi; simp only [List.mem_cons, List.not_mem_nil, or_false] at hi
        rcases hi with rfl
        · refine ⟨_, rfl, ?_⟩
          first
          | (refine OPS.buildSlice rfl rfl rfl rfl (bsl_29_0_ (e := fun _ => .int .i64 0)) E110 ?_
             clear H; intro g35 w E1
             have E113 : SH w0 [] w (bR g9 0 none 0 0 :: (bM g40 [I more] :: ((bR g7 ra X x.length cx :: bA g4 rt R rn.length cr :: bN g3 n A l.length ca B ts.length cb C ns.length cc hd :: Lf) ++ [⟨g35, 3, []⟩]))) := E1.perm (by exact permBy fun f => by simp <;> omega)
             clear E1 E110
             have H := E113.drop (L' := (bR g7 ra X x.length cx :: bA g4 rt R rn.length cr :: bN g3 n A l.length ca B ts.length cb C ns.length cc hd :: Lf)) Sb.out)
          | (refine OPS.buildSlice rfl rfl rfl rfl (bsl_29_0_ (e := fun _ => .int .i64 0)) E100 ?_
             clear H; intro g35 w E1
             have E103 : SH w0 [] w (bR g9 0 none 0 0 :: ((bR g7 ra X x.length cx :: bA g4 rt R rn.length cr :: bN g3 n A l.length ca B ts.length cb C ns.length cc hd :: Lf) ++ [⟨g35, 3, []⟩])) := E1.perm (by exact permBy fun f => by simp <;> omega)
             clear E1 E100
             have H := E103.drop (L' := (bR g7 ra X x.length cx :: bA g4 rt R rn.length cr :: bN g3 n A l.length ca B ts.length cb C ns.length cc hd :: Lf)) Sb.out)
          | (refine OPS.buildSlice rfl rfl rfl rfl (bsl_29_0_ (e := fun _ => .int .i64 0)) E010 ?_
             clear H; intro g35 w E1
             have E013 : SH w0 [] w (bM g40 [I more] :: ((bR g7 ra X x.length cx :: bA g4 rt R rn.length cr :: bN g3 n A l.length ca B ts.length cb C ns.length cc hd :: Lf) ++ [⟨g35, 3, []⟩])) := E1.perm (by exact permBy fun f => by simp <;> omega)
             clear E1 E010
             have H := E013.drop (L' := (bR g7 ra X x.length cx :: bA g4 rt R rn.length cr :: bN g3 n A l.length ca B ts.length cb C ns.length cc hd :: Lf)) Sb.out)
          | (refine OPS.buildSlice rfl rfl rfl rfl (bsl_29_0_ (e := fun _ => .int .i64 0)) (E000.toBelow hbw4) ?_
             clear H; intro g35 w E1
             have E003 : SH w0 [] w ((bR g7 ra X x.length cx :: bA g4 rt R rn.length cr :: bN g3 n A l.length ca B ts.length cb C ns.length cc hd :: Lf) ++ [⟨g35, 3, []⟩]) := E1.perm (by exact permBy fun f => by simp <;> omega)
             clear E1 E000
             have H := E003.drop (L' := (bR g7 ra X x.length cx :: bA g4 rt R rn.length cr :: bN g3 n A l.length ca B ts.length cb C ns.length cc hd :: Lf)) Sb.out)
          refine OPS.nil ?_
          refine ⟨(by exact H), ?_⟩
          refine OPH.all [6] (by kernel_rfl) (by simp) rfl ?_
          intro i hi; simp only [List.mem_cons, List.not_mem_nil, or_false] at hi
          rcases hi with rfl
          · refine ⟨_, rfl, ?_⟩
            first
            | (refine OPS.appendE (m := rn.length) (news := rn.map I) (R := bR g9 0 none 0 0 :: (bM g40 [I more] :: ((bR g7 ra X x.length cx :: bA g4 rt R rn.length cr :: bN g3 n A l.length ca B ts.length cb C ns.length cc hd :: Lf)))) rfl rfl rfl rfl rfl (sl_run rfl) rfl rfl (OwnS.mt (g := g35)) (by simp) (intsFrom (hr.sh E113)) (intsOne rn) (by omega) (by unfold maxLen; omega) E113 (List.Perm.refl _) ?_
               clear H; intro AE ce Le w hOE E1
               have E116 : SH w0 [] w (bR g9 0 none 0 0 :: (bM g40 [I more] :: ((bR g7 ra X x.length cx :: bA g4 rt R rn.length cr :: bN g3 n A l.length ca B ts.length cb C ns.length cc hd :: Lf) ++ Le))) := E1
               clear E1 E113
               rw [Nat.zero_add, List.nil_append] at hOE
               rw [show 0 + rn.length = rn.length from Nat.zero_add _]
               have H := E116.drop (L' := (bR g7 ra X x.length cx :: bA g4 rt R rn.length cr :: bN g3 n A l.length ca B ts.length cb C ns.length cc hd :: Lf)) Sb.out)
            | (refine OPS.appendE (m := rn.length) (news := rn.map I) (R := bR g9 0 none 0 0 :: ((bR g7 ra X x.length cx :: bA g4 rt R rn.length cr :: bN g3 n A l.length ca B ts.length cb C ns.length cc hd :: Lf))) rfl rfl rfl rfl rfl (sl_run rfl) rfl rfl (OwnS.mt (g := g35)) (by simp) (intsFrom (hr.sh E103)) (intsOne rn) (by omega) (by unfold maxLen; omega) E103 (List.Perm.refl _) ?_
               clear H; intro AE ce Le w hOE E1
               have E106 : SH w0 [] w (bR g9 0 none 0 0 :: ((bR g7 ra X x.length cx :: bA g4 rt R rn.length cr :: bN g3 n A l.length ca B ts.length cb C ns.length cc hd :: Lf) ++ Le)) := E1
               clear E1 E103
               rw [Nat.zero_add, List.nil_append] at hOE
               rw [show 0 + rn.length = rn.length from Nat.zero_add _]
               have H := E106.drop (L' := (bR g7 ra X x.length cx :: bA g4 rt R rn.length cr :: bN g3 n A l.length ca B ts.length cb C ns.length cc hd :: Lf)) Sb.out)
            | (refine OPS.appendE (m := rn.length) (news := rn.map I) (R := bM g40 [I more] :: ((bR g7 ra X x.length cx :: bA g4 rt R rn.length cr :: bN g3 n A l.length ca B ts.length cb C ns.length cc hd :: Lf))) rfl rfl rfl rfl rfl (sl_run rfl) rfl rfl (OwnS.mt (g := g35)) (by simp) (intsFrom (hr.sh E013)) (intsOne rn) (by omega) (by unfold maxLen; omega) E013 (List.Perm.refl _) ?_
               clear H; intro AE ce Le w hOE E1
               have E016 : SH w0 [] w (bM g40 [I more] :: ((bR g7 ra X x.length cx :: bA g4 rt R rn.length cr :: bN g3 n A l.length ca B ts.length cb C ns.length cc hd :: Lf) ++ Le)) := E1
               clear E1 E013
               rw [Nat.zero_add, List.nil_append] at hOE
               rw [show 0 + rn.length = rn.length from Nat.zero_add _]
               have H := E016.drop (L' := (bR g7 ra X x.length cx :: bA g4 rt R rn.length cr :: bN g3 n A l.length ca B ts.length cb C ns.length cc hd :: Lf)) Sb.out)
            | (refine OPS.appendE (m := rn.length) (news := rn.map I) (R := (bR g7 ra X x.length cx :: bA g4 rt R rn.length cr :: bN g3 n A l.length ca B ts.length cb C ns.length cc hd :: Lf)) rfl rfl rfl rfl rfl (sl_run rfl) rfl rfl (OwnS.mt (g := g35)) (by simp) (intsFrom (hr.sh E003)) (intsOne rn) (by omega) (by unfold maxLen; omega) E003 (List.Perm.refl _) ?_
               clear H; intro AE ce Le w hOE E1
               have E006 : SH w0 [] w ((bR g7 ra X x.length cx :: bA g4 rt R rn.length cr :: bN g3 n A l.length ca B ts.length cb C ns.length cc hd :: Lf) ++ Le) := E1
               clear E1 E003
               rw [Nat.zero_add, List.nil_append] at hOE
               rw [show 0 + rn.length = rn.length from Nat.zero_add _]
               have H := E006.drop (L' := (bR g7 ra X x.length cx :: bA g4 rt R rn.length cr :: bN g3 n A l.length ca B ts.length cb C ns.length cc hd :: Lf)) Sb.out)
            refine OPS.nil ?_
            refine ⟨(by exact H), ?_⟩
            refine OPH.all [9] (by kernel_rfl) (by simp) rfl ?_
            intro i hi; simp only [List.mem_cons, List.not_mem_nil, or_false] at hi
            rcases hi with rfl
            · refine ⟨_, rfl, ?_⟩
              first
              | (refine OPS.append (m := 1) (news := [I more]) (R := bR g9 0 none 0 0 :: (bM g40 [I more] :: ((bR g7 ra X x.length cx :: bA g4 rt R rn.length cr :: bN g3 n A l.length ca B ts.length cb C ns.length cc hd :: Lf)))) rfl rfl rfl rfl rfl (sl_run rfl) rfl rfl hOE rfl (src_own E116 1 rfl) rfl (by omega) (by unfold maxLen; omega) E116 (List.Perm.refl _) ?_
                 clear H hOE; intro AE ce Le w hOE E1
                 rw [show rn.map I ++ [I more] = (rn ++ [more]).map I by simp] at hOE
                 have E119 : SH w0 [] w (bR g9 0 none 0 0 :: (bM g40 [I more] :: ((bR g7 ra X x.length cx :: bA g4 rt R rn.length cr :: bN g3 n A l.length ca B ts.length cb C ns.length cc hd :: Lf) ++ Le))) := E1
                 clear E1 E116
                 have H := E119.drop (L' := (bR g7 ra X x.length cx :: bA g4 rt R rn.length cr :: bN g3 n A l.length ca B ts.length cb C ns.length cc hd :: Lf)) Sb.out)
              | (refine OPS.append (m := 1) (news := [I more]) (R := bM g40 [I more] :: ((bR g7 ra X x.length cx :: bA g4 rt R rn.length cr :: bN g3 n A l.length ca B ts.length cb C ns.length cc hd :: Lf))) rfl rfl rfl rfl rfl (sl_run rfl) rfl rfl hOE rfl (src_own E016 0 rfl) rfl (by omega) (by unfold maxLen; omega) E016 (List.Perm.refl _) ?_
                 clear H hOE; intro AE ce Le w hOE E1
                 rw [show rn.map I ++ [I more] = (rn ++ [more]).map I by simp] at hOE
                 have E019 : SH w0 [] w (bM g40 [I more] :: ((bR g7 ra X x.length cx :: bA g4 rt R rn.length cr :: bN g3 n A l.length ca B ts.length cb C ns.length cc hd :: Lf) ++ Le)) := E1
                 clear E1 E016
                 have H := E019.drop (L' := (bR g7 ra X x.length cx :: bA g4 rt R rn.length cr :: bN g3 n A l.length ca B ts.length cb C ns.length cc hd :: Lf)) Sb.out)
              refine OPS.nil ?_
              refine ⟨(by exact H), ?_⟩
              refine OPH.all [10] (by kernel_rfl) (by simp) rfl ?_
              intro i hi; simp only [List.mem_cons, List.not_mem_nil, or_false] at hi
              rcases hi with rfl
              · refine ⟨_, rfl, ?_⟩
                first
                | (refine OPS.call (d := some 42) rfl rfl rfl (EvC.func (fun_run rfl)) (hmk w AE ce (hz.sh E119) (ht.sh E119) (hn.sh E119) (ownS_at hOE E119 Sb.out)) ?_
                   rintro _ w ⟨eb, rb, y, Y, cy, Lm, rfl, hM, hOY, Hc⟩
                   refine ⟨_, rfl, ?_⟩
                   have E1 := SH.call (L1 := bR g9 0 none 0 0 :: ((bR g7 ra X x.length cx :: bA g4 rt R rn.length cr :: bN g3 n A l.length ca B ts.length cb C ns.length cc hd :: Lf))) (Lv := []) (by rw [List.append_nil]; exact E119.drop (List.Sublist.cons_cons _ Sb.out)) Hc
                   have E10X : SH w0 [] w (bR g9 0 none 0 0 :: ((bR g7 ra X x.length cx :: bA g4 rt R rn.length cr :: bN g3 n A l.length ca B ts.length cb C ns.length cc hd :: Lf) ++ Lm)) := E1
                   clear E1 Hc H E119
                   have H := E10X.drop (L' := (bR g7 ra X x.length cx :: bA g4 rt R rn.length cr :: bN g3 n A l.length ca B ts.length cb C ns.length cc hd :: Lf)) Sb.out)
                | (refine OPS.call (d := some 42) rfl rfl rfl (EvC.func (fun_run rfl)) (hmk w AE ce (hz.sh E019) (ht.sh E019) (hn.sh E019) (ownS_at hOE E019 Sb.out)) ?_
                   rintro _ w ⟨eb, rb, y, Y, cy, Lm, rfl, hM, hOY, Hc⟩
                   refine ⟨_, rfl, ?_⟩
                   have E1 := SH.call (L1 := (bR g7 ra X x.length cx :: bA g4 rt R rn.length cr :: bN g3 n A l.length ca B ts.length cb C ns.length cc hd :: Lf)) (Lv := []) (by rw [List.append_nil]; exact E019.drop (Sb.out)) Hc
                   have E00X : SH w0 [] w ((bR g7 ra X x.length cx :: bA g4 rt R rn.length cr :: bN g3 n A l.length ca B ts.length cb C ns.length cc hd :: Lf) ++ Lm) := E1
                   clear E1 Hc H E019
                   have H := E00X.drop (L' := (bR g7 ra X x.length cx :: bA g4 rt R rn.length cr :: bN g3 n A l.length ca B ts.length cb C ns.length cc hd :: Lf)) Sb.out)
                refine OPS.nil ?_
                refine ⟨(by exact H), ?_⟩
                refine OPH.take 11 rfl rfl rfl rfl (by kernel_rfl) (by kernel_rfl) (by kernel_rfl) rfl (by exact H) (fun w H => Ev.mvT rfl) ?_
                refine OPH.take 12 rfl rfl rfl rfl (by kernel_rfl) (by kernel_rfl) (by kernel_rfl) rfl (by exact H) (fun w H => Ev.extract rfl rfl) ?_
                refine OPH.take 13 rfl rfl rfl rfl (by kernel_rfl) (by kernel_rfl) (by kernel_rfl) rfl (by exact H) (fun w H => Ev.extract rfl rfl) ?_
                refine OPH.all [15] (by kernel_rfl) (by simp) rfl ?_
                intro i hi; simp only [List.mem_cons, List.not_mem_nil, or_false] at hi
                rcases hi with rfl
                · refine ⟨_, rfl, ?_⟩
                  refine OPS.store 0 _ rfl rfl rfl (size_run rfl) rfl (cA rfl) rfl rfl E10X rfl (by simp) ?_
                  clear H; intro w E1; clear E10X
                  simp only [List.set_cons_zero, putL] at E1
                  have H := E1.drop (L' := (bR g7 ra X x.length cx :: bA g4 rt R rn.length cr :: bN g3 n A l.length ca B ts.length cb C ns.length cc hd :: Lf)) Sb.out
                  refine OPS.nil ?_
                  refine ⟨(by exact H), ?_⟩
                  refine OPH.take 16 rfl rfl rfl rfl (by kernel_rfl) (by kernel_rfl) (by kernel_rfl) rfl (by exact H) (fun w H => Ev.asI rfl) ?_
                  refine OPH.done (by kernel_rfl) ?_
                  exact ⟨(by repeat (first | exact Agree.refl _ _ | exact Agree.mix _ _ _ | refine Agree.upd rfl ?_ | refine Agree.mix2 rfl ?_)), eb, rb, y, Y, cy, Lm, g9, rfl, rfl, hM, hOY, E1⟩
    · refine ⟨_, rfl, ?_⟩
      first
      | (refine OPS.alloc rfl rfl rfl rfl (zero_run rfl) rfl E00X ?_
         clear H; intro g9 w E1
         have E10X : SH w0 [] w (bR g9 0 none 0 0 :: ((bR g7 ra X x.length cx :: bA g4 rt R rn.length cr :: bN g3 n A l.length ca B ts.length cb C ns.length cc hd :: Lf) ++ Lm)) := E1
         clear E1 E00X
         have H := E10X.drop (L' := (bR g7 ra X x.length cx :: bA g4 rt R rn.length cr :: bN g3 n A l.length ca B ts.length cb C ns.length cc hd :: Lf)) Sb.out)
      | (refine OPS.alloc rfl rfl rfl rfl (zero_run rfl) rfl E019 ?_
         clear H; intro g9 w E1
         have E119 : SH w0 [] w (bR g9 0 none 0 0 :: (bM g40 [I more] :: ((bR g7 ra X x.length cx :: bA g4 rt R rn.length cr :: bN g3 n A l.length ca B ts.length cb C ns.length cc hd :: Lf) ++ Le))) := E1
         clear E1 E019
         have H := E119.drop (L' := (bR g7 ra X x.length cx :: bA g4 rt R rn.length cr :: bN g3 n A l.length ca B ts.length cb C ns.length cc hd :: Lf)) Sb.out)
      | (refine OPS.alloc rfl rfl rfl rfl (zero_run rfl) rfl E016 ?_
         clear H; intro g9 w E1
         have E116 : SH w0 [] w (bR g9 0 none 0 0 :: (bM g40 [I more] :: ((bR g7 ra X x.length cx :: bA g4 rt R rn.length cr :: bN g3 n A l.length ca B ts.length cb C ns.length cc hd :: Lf) ++ Le))) := E1
         clear E1 E016
         have H := E116.drop (L' := (bR g7 ra X x.length cx :: bA g4 rt R rn.length cr :: bN g3 n A l.length ca B ts.length cb C ns.length cc hd :: Lf)) Sb.out)
      | (refine OPS.alloc rfl rfl rfl rfl (zero_run rfl) rfl E006 ?_
         clear H; intro g9 w E1
         have E106 : SH w0 [] w (bR g9 0 none 0 0 :: ((bR g7 ra X x.length cx :: bA g4 rt R rn.length cr :: bN g3 n A l.length ca B ts.length cb C ns.length cc hd :: Lf) ++ Le)) := E1
         clear E1 E006
         have H := E106.drop (L' := (bR g7 ra X x.length cx :: bA g4 rt R rn.length cr :: bN g3 n A l.length ca B ts.length cb C ns.length cc hd :: Lf)) Sb.out)
      | (refine OPS.alloc rfl rfl rfl rfl (zero_run rfl) rfl E013 ?_
         clear H; intro g9 w E1
         have E113 : SH w0 [] w (bR g9 0 none 0 0 :: (bM g40 [I more] :: ((bR g7 ra X x.length cx :: bA g4 rt R rn.length cr :: bN g3 n A l.length ca B ts.length cb C ns.length cc hd :: Lf) ++ [⟨g35, 3, []⟩]))) := E1
         clear E1 E013
         have H := E113.drop (L' := (bR g7 ra X x.length cx :: bA g4 rt R rn.length cr :: bN g3 n A l.length ca B ts.length cb C ns.length cc hd :: Lf)) Sb.out)
      | (refine OPS.alloc rfl rfl rfl rfl (zero_run rfl) rfl E003 ?_
         clear H; intro g9 w E1
         have E103 : SH w0 [] w (bR g9 0 none 0 0 :: ((bR g7 ra X x.length cx :: bA g4 rt R rn.length cr :: bN g3 n A l.length ca B ts.length cb C ns.length cc hd :: Lf) ++ [⟨g35, 3, []⟩])) := E1
         clear E1 E003
         have H := E103.drop (L' := (bR g7 ra X x.length cx :: bA g4 rt R rn.length cr :: bN g3 n A l.length ca B ts.length cb C ns.length cc hd :: Lf)) Sb.out)
      | (refine OPS.alloc rfl rfl rfl rfl (zero_run rfl) rfl E010 ?_
         clear H; intro g9 w E1
         have E110 : SH w0 [] w (bR g9 0 none 0 0 :: (bM g40 [I more] :: ((bR g7 ra X x.length cx :: bA g4 rt R rn.length cr :: bN g3 n A l.length ca B ts.length cb C ns.length cc hd :: Lf)))) := E1
         clear E1 E010
         have H := E110.drop (L' := (bR g7 ra X x.length cx :: bA g4 rt R rn.length cr :: bN g3 n A l.length ca B ts.length cb C ns.length cc hd :: Lf)) Sb.out)
      | (refine OPS.alloc rfl rfl rfl rfl (zero_run rfl) rfl (E000.toBelow hbw4) ?_
         clear H; intro g9 w E1
         have E100 : SH w0 [] w (bR g9 0 none 0 0 :: ((bR g7 ra X x.length cx :: bA g4 rt R rn.length cr :: bN g3 n A l.length ca B ts.length cb C ns.length cc hd :: Lf))) := E1
         clear E1 E000
         have H := E100.drop (L' := (bR g7 ra X x.length cx :: bA g4 rt R rn.length cr :: bN g3 n A l.length ca B ts.length cb C ns.length cc hd :: Lf)) Sb.out)
      refine OPS.nil ?_
      refine ⟨(by exact H), ?_⟩
      refine OPH.all [3, 8] (by kernel_rfl) (by simp) rfl ?_
      intro i hi; simp only [List.mem_cons, List.not_mem_nil, or_false] at hi
      rcases hi with rfl | rfl
      · refine ⟨_, rfl, ?_⟩
        first
        | (refine OPS.buildSlice rfl rfl rfl rfl (bsl_29_0_ (e := fun _ => .int .i64 0)) E110 ?_
           clear H; intro g35 w E1
           have E113 : SH w0 [] w (bR g9 0 none 0 0 :: (bM g40 [I more] :: ((bR g7 ra X x.length cx :: bA g4 rt R rn.length cr :: bN g3 n A l.length ca B ts.length cb C ns.length cc hd :: Lf) ++ [⟨g35, 3, []⟩]))) := E1.perm (by exact permBy fun f => by simp <;> omega)
           clear E1 E110
           have H := E113.drop (L' := (bR g7 ra X x.length cx :: bA g4 rt R rn.length cr :: bN g3 n A l.length ca B ts.length cb C ns.length cc hd :: Lf)) Sb.out)
        | (refine OPS.buildSlice rfl rfl rfl rfl (bsl_29_0_ (e := fun _ => .int .i64 0)) E100 ?_
           clear H; intro g35 w E1
           have E103 : SH w0 [] w (bR g9 0 none 0 0 :: ((bR g7 ra X x.length cx :: bA g4 rt R rn.length cr :: bN g3 n A l.length ca B ts.length cb C ns.length cc hd :: Lf) ++ [⟨g35, 3, []⟩])) := E1.perm (by exact permBy fun f => by simp <;> omega)
           clear E1 E100
           have H := E103.drop (L' := (bR g7 ra X x.length cx :: bA g4 rt R rn.length cr :: bN g3 n A l.length ca B ts.length cb C ns.length cc hd :: Lf)) Sb.out)
        | (refine OPS.buildSlice rfl rfl rfl rfl (bsl_29_0_ (e := fun _ => .int .i64 0)) E010 ?_
           clear H; intro g35 w E1
           have E013 : SH w0 [] w (bM g40 [I more] :: ((bR g7 ra X x.length cx :: bA g4 rt R rn.length cr :: bN g3 n A l.length ca B ts.length cb C ns.length cc hd :: Lf) ++ [⟨g35, 3, []⟩])) := E1.perm (by exact permBy fun f => by simp <;> omega)
           clear E1 E010
           have H := E013.drop (L' := (bR g7 ra X x.length cx :: bA g4 rt R rn.length cr :: bN g3 n A l.length ca B ts.length cb C ns.length cc hd :: Lf)) Sb.out)
        | (refine OPS.buildSlice rfl rfl rfl rfl (bsl_29_0_ (e := fun _ => .int .i64 0)) (E000.toBelow hbw4) ?_
           clear H; intro g35 w E1
           have E003 : SH w0 [] w ((bR g7 ra X x.length cx :: bA g4 rt R rn.length cr :: bN g3 n A l.length ca B ts.length cb C ns.length cc hd :: Lf) ++ [⟨g35, 3, []⟩]) := E1.perm (by exact permBy fun f => by simp <;> omega)
           clear E1 E000
           have H := E003.drop (L' := (bR g7 ra X x.length cx :: bA g4 rt R rn.length cr :: bN g3 n A l.length ca B ts.length cb C ns.length cc hd :: Lf)) Sb.out)
        refine OPS.nil ?_
        refine ⟨(by exact H), ?_⟩
        refine OPH.all [6, 8] (by kernel_rfl) (by simp) rfl ?_
        intro i hi; simp only [List.mem_cons, List.not_mem_nil, or_false] at hi
        rcases hi with rfl | rfl
        · refine ⟨_, rfl, ?_⟩
          first
          | (refine OPS.appendE (m := rn.length) (news := rn.map I) (R := bR g9 0 none 0 0 :: (bM g40 [I more] :: ((bR g7 ra X x.length cx :: bA g4 rt R rn.length cr :: bN g3 n A l.length ca B ts.length cb C ns.length cc hd :: Lf)))) rfl rfl rfl rfl rfl (sl_run rfl) rfl rfl (OwnS.mt (g := g35)) (by simp) (intsFrom (hr.sh E113)) (intsOne rn) (by omega) (by unfold maxLen; omega) E113 (List.Perm.refl _) ?_
             clear H; intro AE ce Le w hOE E1
             have E116 : SH w0 [] w (bR g9 0 none 0 0 :: (bM g40 [I more] :: ((bR g7 ra X x.length cx :: bA g4 rt R rn.length cr :: bN g3 n A l.length ca B ts.length cb C ns.length cc hd :: Lf) ++ Le))) := E1
             clear E1 E113
             rw [Nat.zero_add, List.nil_append] at hOE
             rw [show 0 + rn.length = rn.length from Nat.zero_add _]
             have H := E116.drop (L' := (bR g7 ra X x.length cx :: bA g4 rt R rn.length cr :: bN g3 n A l.length ca B ts.length cb C ns.length cc hd :: Lf)) Sb.out)
          | (refine OPS.appendE (m := rn.length) (news := rn.map I) (R := bR g9 0 none 0 0 :: ((bR g7 ra X x.length cx :: bA g4 rt R rn.length cr :: bN g3 n A l.length ca B ts.length cb C ns.length cc hd :: Lf))) rfl rfl rfl rfl rfl (sl_run rfl) rfl rfl (OwnS.mt (g := g35)) (by simp) (intsFrom (hr.sh E103)) (intsOne rn) (by omega) (by unfold maxLen; omega) E103 (List.Perm.refl _) ?_
             clear H; intro AE ce Le w hOE E1
             have E106 : SH w0 [] w (bR g9 0 none 0 0 :: ((bR g7 ra X x.length cx :: bA g4 rt R rn.length cr :: bN g3 n A l.length ca B ts.length cb C ns.length cc hd :: Lf) ++ Le)) := E1
             clear E1 E103
             rw [Nat.zero_add, List.nil_append] at hOE
             rw [show 0 + rn.length = rn.length from Nat.zero_add _]
             have H := E106.drop (L' := (bR g7 ra X x.length cx :: bA g4 rt R rn.length cr :: bN g3 n A l.length ca B ts.length cb C ns.length cc hd :: Lf)) Sb.out)
          | (refine OPS.appendE (m := rn.length) (news := rn.map I) (R := bM g40 [I more] :: ((bR g7 ra X x.length cx :: bA g4 rt R rn.length cr :: bN g3 n A l.length ca B ts.length cb C ns.length cc hd :: Lf))) rfl rfl rfl rfl rfl (sl_run rfl) rfl rfl (OwnS.mt (g := g35)) (by simp) (intsFrom (hr.sh E013)) (intsOne rn) (by omega) (by unfold maxLen; omega) E013 (List.Perm.refl _) ?_
             clear H; intro AE ce Le w hOE E1
             have E016 : SH w0 [] w (bM g40 [I more] :: ((bR g7 ra X x.length cx :: bA g4 rt R rn.length cr :: bN g3 n A l.length ca B ts.length cb C ns.length cc hd :: Lf) ++ Le)) := E1
             clear E1 E013
             rw [Nat.zero_add, List.nil_append] at hOE
             rw [show 0 + rn.length = rn.length from Nat.zero_add _]
             have H := E016.drop (L' := (bR g7 ra X x.length cx :: bA g4 rt R rn.length cr :: bN g3 n A l.length ca B ts.length cb C ns.length cc hd :: Lf)) Sb.out)
          | (refine OPS.appendE (m := rn.length) (news := rn.map I) (R := (bR g7 ra X x.length cx :: bA g4 rt R rn.length cr :: bN g3 n A l.length ca B ts.length cb C ns.length cc hd :: Lf)) rfl rfl rfl rfl rfl (sl_run rfl) rfl rfl (OwnS.mt (g := g35)) (by simp) (intsFrom (hr.sh E003)) (intsOne rn) (by omega) (by unfold maxLen; omega) E003 (List.Perm.refl _) ?_
             clear H; intro AE ce Le w hOE E1
             have E006 : SH w0 [] w ((bR g7 ra X x.length cx :: bA g4 rt R rn.length cr :: bN g3 n A l.length ca B ts.length cb C ns.length cc hd :: Lf) ++ Le) := E1
             clear E1 E003
             rw [Nat.zero_add, List.nil_append] at hOE
             rw [show 0 + rn.length = rn.length from Nat.zero_add _]
             have H := E006.drop (L' := (bR g7 ra X x.length cx :: bA g4 rt R rn.length cr :: bN g3 n A l.length ca B ts.length cb C ns.length cc hd :: Lf)) Sb.out)
          refine OPS.nil ?_
          refine ⟨(by exact H), ?_⟩
          refine OPH.all [8] (by kernel_rfl) (by simp) rfl ?_
          intro i hi; simp only [List.mem_cons, List.not_mem_nil, or_false] at hi
          rcases hi with rfl
          · refine ⟨_, rfl, ?_⟩
            first
            | (refine OPS.buildSlice rfl rfl rfl rfl (bsl_29_1_0 rfl) E106 ?_
               clear H; intro g40 w E1
               have E116 : SH w0 [] w (bR g9 0 none 0 0 :: (bM g40 [I more] :: ((bR g7 ra X x.length cx :: bA g4 rt R rn.length cr :: bN g3 n A l.length ca B ts.length cb C ns.length cc hd :: Lf) ++ Le))) := E1.perm (List.Perm.swap _ _ _)
               clear E1 E106
               have H := E116.drop (L' := (bR g7 ra X x.length cx :: bA g4 rt R rn.length cr :: bN g3 n A l.length ca B ts.length cb C ns.length cc hd :: Lf)) Sb.out)
            | (refine OPS.buildSlice rfl rfl rfl rfl (bsl_29_1_0 rfl) E103 ?_
               clear H; intro g40 w E1
               have E113 : SH w0 [] w (bR g9 0 none 0 0 :: (bM g40 [I more] :: ((bR g7 ra X x.length cx :: bA g4 rt R rn.length cr :: bN g3 n A l.length ca B ts.length cb C ns.length cc hd :: Lf) ++ [⟨g35, 3, []⟩]))) := E1.perm (List.Perm.swap _ _ _)
               clear E1 E103
               have H := E113.drop (L' := (bR g7 ra X x.length cx :: bA g4 rt R rn.length cr :: bN g3 n A l.length ca B ts.length cb C ns.length cc hd :: Lf)) Sb.out)
            | (refine OPS.buildSlice rfl rfl rfl rfl (bsl_29_1_0 rfl) E100 ?_
               clear H; intro g40 w E1
               have E110 : SH w0 [] w (bR g9 0 none 0 0 :: (bM g40 [I more] :: ((bR g7 ra X x.length cx :: bA g4 rt R rn.length cr :: bN g3 n A l.length ca B ts.length cb C ns.length cc hd :: Lf)))) := E1.perm (List.Perm.swap _ _ _)
               clear E1 E100
               have H := E110.drop (L' := (bR g7 ra X x.length cx :: bA g4 rt R rn.length cr :: bN g3 n A l.length ca B ts.length cb C ns.length cc hd :: Lf)) Sb.out)
            | (refine OPS.buildSlice rfl rfl rfl rfl (bsl_29_1_0 rfl) E006 ?_
               clear H; intro g40 w E1
               have E016 : SH w0 [] w (bM g40 [I more] :: ((bR g7 ra X x.length cx :: bA g4 rt R rn.length cr :: bN g3 n A l.length ca B ts.length cb C ns.length cc hd :: Lf) ++ Le)) := E1
               clear E1 E006
               have H := E016.drop (L' := (bR g7 ra X x.length cx :: bA g4 rt R rn.length cr :: bN g3 n A l.length ca B ts.length cb C ns.length cc hd :: Lf)) Sb.out)
            | (refine OPS.buildSlice rfl rfl rfl rfl (bsl_29_1_0 rfl) E003 ?_
               clear H; intro g40 w E1
               have E013 : SH w0 [] w (bM g40 [I more] :: ((bR g7 ra X x.length cx :: bA g4 rt R rn.length cr :: bN g3 n A l.length ca B ts.length cb C ns.length cc hd :: Lf) ++ [⟨g35, 3, []⟩])) := E1
               clear E1 E003
               have H := E013.drop (L' := (bR g7 ra X x.length cx :: bA g4 rt R rn.length cr :: bN g3 n A l.length ca B ts.length cb C ns.length cc hd :: Lf)) Sb.out)
            | (refine OPS.buildSlice rfl rfl rfl rfl (bsl_29_1_0 rfl) (E000.toBelow hbw4) ?_
               clear H; intro g40 w E1
               have E010 : SH w0 [] w (bM g40 [I more] :: ((bR g7 ra X x.length cx :: bA g4 rt R rn.length cr :: bN g3 n A l.length ca B ts.length cb C ns.length cc hd :: Lf))) := E1
               clear E1 E000
               have H := E010.drop (L' := (bR g7 ra X x.length cx :: bA g4 rt R rn.length cr :: bN g3 n A l.length ca B ts.length cb C ns.length cc hd :: Lf)) Sb.out)
            refine OPS.nil ?_
            refine ⟨(by exact H), ?_⟩
            refine OPH.all [9] (by kernel_rfl) (by simp) rfl ?_
            intro i hi; simp only [List.mem_cons, List.not_mem_nil, or_false] at hi
            rcases hi with rfl
            · refine ⟨_, rfl, ?_⟩
              first
              | (refine OPS.append (m := 1) (news := [I more]) (R := bR g9 0 none 0 0 :: (bM g40 [I more] :: ((bR g7 ra X x.length cx :: bA g4 rt R rn.length cr :: bN g3 n A l.length ca B ts.length cb C ns.length cc hd :: Lf)))) rfl rfl rfl rfl rfl (sl_run rfl) rfl rfl hOE rfl (src_own E116 1 rfl) rfl (by omega) (by unfold maxLen; omega) E116 (List.Perm.refl _) ?_
                 clear H hOE; intro AE ce Le w hOE E1
                 rw [show rn.map I ++ [I more] = (rn ++ [more]).map I by simp] at hOE
                 have E119 : SH w0 [] w (bR g9 0 none 0 0 :: (bM g40 [I more] :: ((bR g7 ra X x.length cx :: bA g4 rt R rn.length cr :: bN g3 n A l.length ca B ts.length cb C ns.length cc hd :: Lf) ++ Le))) := E1
                 clear E1 E116
                 have H := E119.drop (L' := (bR g7 ra X x.length cx :: bA g4 rt R rn.length cr :: bN g3 n A l.length ca B ts.length cb C ns.length cc hd :: Lf)) Sb.out)
              | (refine OPS.append (m := 1) (news := [I more]) (R := bM g40 [I more] :: ((bR g7 ra X x.length cx :: bA g4 rt R rn.length cr :: bN g3 n A l.length ca B ts.length cb C ns.length cc hd :: Lf))) rfl rfl rfl rfl rfl (sl_run rfl) rfl rfl hOE rfl (src_own E016 0 rfl) rfl (by omega) (by unfold maxLen; omega) E016 (List.Perm.refl _) ?_
                 clear H hOE; intro AE ce Le w hOE E1
                 rw [show rn.map I ++ [I more] = (rn ++ [more]).map I by simp] at hOE
                 have E019 : SH w0 [] w (bM g40 [I more] :: ((bR g7 ra X x.length cx :: bA g4 rt R rn.length cr :: bN g3 n A l.length ca B ts.length cb C ns.length cc hd :: Lf) ++ Le)) := E1
                 clear E1 E016
                 have H := E019.drop (L' := (bR g7 ra X x.length cx :: bA g4 rt R rn.length cr :: bN g3 n A l.length ca B ts.length cb C ns.length cc hd :: Lf)) Sb.out)
              refine OPS.nil ?_
              refine ⟨(by exact H), ?_⟩
              refine OPH.all [10] (by kernel_rfl) (by simp) rfl ?_
              intro i hi; simp only [List.mem_cons, List.not_mem_nil, or_false] at hi
              rcases hi with rfl
              · refine ⟨_, rfl, ?_⟩
                first
                | (refine OPS.call (d := some 42) rfl rfl rfl (EvC.func (fun_run rfl)) (hmk w AE ce (hz.sh E119) (ht.sh E119) (hn.sh E119) (ownS_at hOE E119 Sb.out)) ?_
                   rintro _ w ⟨eb, rb, y, Y, cy, Lm, rfl, hM, hOY, Hc⟩
                   refine ⟨_, rfl, ?_⟩
                   have E1 := SH.call (L1 := bR g9 0 none 0 0 :: ((bR g7 ra X x.length cx :: bA g4 rt R rn.length cr :: bN g3 n A l.length ca B ts.length cb C ns.length cc hd :: Lf))) (Lv := []) (by rw [List.append_nil]; exact E119.drop (List.Sublist.cons_cons _ Sb.out)) Hc
                   have E10X : SH w0 [] w (bR g9 0 none 0 0 :: ((bR g7 ra X x.length cx :: bA g4 rt R rn.length cr :: bN g3 n A l.length ca B ts.length cb C ns.length cc hd :: Lf) ++ Lm)) := E1
                   clear E1 Hc H E119
                   have H := E10X.drop (L' := (bR g7 ra X x.length cx :: bA g4 rt R rn.length cr :: bN g3 n A l.length ca B ts.length cb C ns.length cc hd :: Lf)) Sb.out)
                | (refine OPS.call (d := some 42) rfl rfl rfl (EvC.func (fun_run rfl)) (hmk w AE ce (hz.sh E019) (ht.sh E019) (hn.sh E019) (ownS_at hOE E019 Sb.out)) ?_
                   rintro _ w ⟨eb, rb, y, Y, cy, Lm, rfl, hM, hOY, Hc⟩
                   refine ⟨_, rfl, ?_⟩
                   have E1 := SH.call (L1 := (bR g7 ra X x.length cx :: bA g4 rt R rn.length cr :: bN g3 n A l.length ca B ts.length cb C ns.length cc hd :: Lf)) (Lv := []) (by rw [List.append_nil]; exact E019.drop (Sb.out)) Hc
                   have E00X : SH w0 [] w ((bR g7 ra X x.length cx :: bA g4 rt R rn.length cr :: bN g3 n A l.length ca B ts.length cb C ns.length cc hd :: Lf) ++ Lm) := E1
                   clear E1 Hc H E019
                   have H := E00X.drop (L' := (bR g7 ra X x.length cx :: bA g4 rt R rn.length cr :: bN g3 n A l.length ca B ts.length cb C ns.length cc hd :: Lf)) Sb.out)
                refine OPS.nil ?_
                refine ⟨(by exact H), ?_⟩
                refine OPH.take 11 rfl rfl rfl rfl (by kernel_rfl) (by kernel_rfl) (by kernel_rfl) rfl (by exact H) (fun w H => Ev.mvT rfl) ?_
                refine OPH.take 12 rfl rfl rfl rfl (by kernel_rfl) (by kernel_rfl) (by kernel_rfl) rfl (by exact H) (fun w H => Ev.extract rfl rfl) ?_
                refine OPH.take 13 rfl rfl rfl rfl (by kernel_rfl) (by kernel_rfl) (by kernel_rfl) rfl (by exact H) (fun w H => Ev.extract rfl rfl) ?_
                refine OPH.all [15] (by kernel_rfl) (by simp) rfl ?_
                intro i hi; simp only [List.mem_cons, List.not_mem_nil, or_false] at hi
                rcases hi with rfl
                · refine ⟨_, rfl, ?_⟩
                  refine OPS.store 0 _ rfl rfl rfl (size_run rfl) rfl (cA rfl) rfl rfl E10X rfl (by simp) ?_
                  clear H; intro w E1; clear E10X
                  simp only [List.set_cons_zero, putL] at E1
                  have H := E1.drop (L' := (bR g7 ra X x.length cx :: bA g4 rt R rn.length cr :: bN g3 n A l.length ca B ts.length cb C ns.length cc hd :: Lf)) Sb.out
                  refine OPS.nil ?_
                  refine ⟨(by exact H), ?_⟩
                  refine OPH.take 16 rfl rfl rfl rfl (by kernel_rfl) (by kernel_rfl) (by kernel_rfl) rfl (by exact H) (fun w H => Ev.asI rfl) ?_
                  refine OPH.done (by kernel_rfl) ?_
                  exact ⟨(by repeat (first | exact Agree.refl _ _ | exact Agree.mix _ _ _ | refine Agree.upd rfl ?_ | refine Agree.mix2 rfl ?_)), eb, rb, y, Y, cy, Lm, g9, rfl, rfl, hM, hOY, E1⟩
        · refine ⟨_, rfl, ?_⟩
          first
          | (refine OPS.buildSlice rfl rfl rfl rfl (bsl_29_1_0 rfl) E106 ?_
             clear H; intro g40 w E1
             have E116 : SH w0 [] w (bR g9 0 none 0 0 :: (bM g40 [I more] :: ((bR g7 ra X x.length cx :: bA g4 rt R rn.length cr :: bN g3 n A l.length ca B ts.length cb C ns.length cc hd :: Lf) ++ Le))) := E1.perm (List.Perm.swap _ _ _)
             clear E1 E106
             have H := E116.drop (L' := (bR g7 ra X x.length cx :: bA g4 rt R rn.length cr :: bN g3 n A l.length ca B ts.length cb C ns.length cc hd :: Lf)) Sb.out)
          | (refine OPS.buildSlice rfl rfl rfl rfl (bsl_29_1_0 rfl) E103 ?_
             clear H; intro g40 w E1
             have E113 : SH w0 [] w (bR g9 0 none 0 0 :: (bM g40 [I more] :: ((bR g7 ra X x.length cx :: bA g4 rt R rn.length cr :: bN g3 n A l.length ca B ts.length cb C ns.length cc hd :: Lf) ++ [⟨g35, 3, []⟩]))) := E1.perm (List.Perm.swap _ _ _)
             clear E1 E103
             have H := E113.drop (L' := (bR g7 ra X x.length cx :: bA g4 rt R rn.length cr :: bN g3 n A l.length ca B ts.length cb C ns.length cc hd :: Lf)) Sb.out)
          | (refine OPS.buildSlice rfl rfl rfl rfl (bsl_29_1_0 rfl) E100 ?_
             clear H; intro g40 w E1
             have E110 : SH w0 [] w (bR g9 0 none 0 0 :: (bM g40 [I more] :: ((bR g7 ra X x.length cx :: bA g4 rt R rn.length cr :: bN g3 n A l.length ca B ts.length cb C ns.length cc hd :: Lf)))) := E1.perm (List.Perm.swap _ _ _)
             clear E1 E100
             have H := E110.drop (L' := (bR g7 ra X x.length cx :: bA g4 rt R rn.length cr :: bN g3 n A l.length ca B ts.length cb C ns.length cc hd :: Lf)) Sb.out)
          | (refine OPS.buildSlice rfl rfl rfl rfl (bsl_29_1_0 rfl) E006 ?_
             clear H; intro g40 w E1
             have E016 : SH w0 [] w (bM g40 [I more] :: ((bR g7 ra X x.length cx :: bA g4 rt R rn.length cr :: bN g3 n A l.length ca B ts.length cb C ns.length cc hd :: Lf) ++ Le)) := E1
             clear E1 E006
             have H := E016.drop (L' := (bR g7 ra X x.length cx :: bA g4 rt R rn.length cr :: bN g3 n A l.length ca B ts.length cb C ns.length cc hd :: Lf)) Sb.out)
          | (refine OPS.buildSlice rfl rfl rfl rfl (bsl_29_1_0 rfl) E003 ?_
             clear H; intro g40 w E1
             have E013 : SH w0 [] w (bM g40 [I more] :: ((bR g7 ra X x.length cx :: bA g4 rt R rn.length cr :: bN g3 n A l.length ca B ts.length cb C ns.length cc hd :: Lf) ++ [⟨g35, 3, []⟩])) := E1
             clear E1 E003
             have H := E013.drop (L' := (bR g7 ra X x.length cx :: bA g4 rt R rn.length cr :: bN g3 n A l.length ca B ts.length cb C ns.length cc hd :: Lf)) Sb.out)
          | (refine OPS.buildSlice rfl rfl rfl rfl (bsl_29_1_0 rfl) (E000.toBelow hbw4) ?_
             clear H; intro g40 w E1
             have E010 : SH w0 [] w (bM g40 [I more] :: ((bR g7 ra X x.length cx :: bA g4 rt R rn.length cr :: bN g3 n A l.length ca B ts.length cb C ns.length cc hd :: Lf))) := E1
             clear E1 E000
             have H := E010.drop (L' := (bR g7 ra X x.length cx :: bA g4 rt R rn.length cr :: bN g3 n A l.length ca B ts.length cb C ns.length cc hd :: Lf)) Sb.out)
          refine OPS.nil ?_
          refine ⟨(by exact H), ?_⟩
          refine OPH.all [6] (by kernel_rfl) (by simp) rfl ?_
          intro i hi; simp only [List.mem_cons, List.not_mem_nil, or_false] at hi
          rcases hi with rfl
          · refine ⟨_, rfl, ?_⟩
            first
            | (refine OPS.appendE (m := rn.length) (news := rn.map I) (R := bR g9 0 none 0 0 :: (bM g40 [I more] :: ((bR g7 ra X x.length cx :: bA g4 rt R rn.length cr :: bN g3 n A l.length ca B ts.length cb C ns.length cc hd :: Lf)))) rfl rfl rfl rfl rfl (sl_run rfl) rfl rfl (OwnS.mt (g := g35)) (by simp) (intsFrom (hr.sh E113)) (intsOne rn) (by omega) (by unfold maxLen; omega) E113 (List.Perm.refl _) ?_
               clear H; intro AE ce Le w hOE E1
               have E116 : SH w0 [] w (bR g9 0 none 0 0 :: (bM g40 [I more] :: ((bR g7 ra X x.length cx :: bA g4 rt R rn.length cr :: bN g3 n A l.length ca B ts.length cb C ns.length cc hd :: Lf) ++ Le))) := E1
               clear E1 E113
               rw [Nat.zero_add, List.nil_append] at hOE
               rw [show 0 + rn.length = rn.length from Nat.zero_add _]
               have H := E116.drop (L' := (bR g7 ra X x.length cx :: bA g4 rt R rn.length cr :: bN g3 n A l.length ca B ts.length cb C ns.length cc hd :: Lf)) Sb.out)
            | (refine OPS.appendE (m := rn.length) (news := rn.map I) (R := bR g9 0 none 0 0 :: ((bR g7 ra X x.length cx :: bA g4 rt R rn.length cr :: bN g3 n A l.length ca B ts.length cb C ns.length cc hd :: Lf))) rfl rfl rfl rfl rfl (sl_run rfl) rfl rfl (OwnS.mt (g := g35)) (by simp) (intsFrom (hr.sh E103)) (intsOne rn) (by omega) (by unfold maxLen; omega) E103 (List.Perm.refl _) ?_
               clear H; intro AE ce Le w hOE E1
               have E106 : SH w0 [] w (bR g9 0 none 0 0 :: ((bR g7 ra X x.length cx :: bA g4 rt R rn.length cr :: bN g3 n A l.length ca B ts.length cb C ns.length cc hd :: Lf) ++ Le)) := E1
               clear E1 E103
               rw [Nat.zero_add, List.nil_append] at hOE
               rw [show 0 + rn.length = rn.length from Nat.zero_add _]
               have H := E106.drop (L' := (bR g7 ra X x.length cx :: bA g4 rt R rn.length cr :: bN g3 n A l.length ca B ts.length cb C ns.length cc hd :: Lf)) Sb.out)
            | (refine OPS.appendE (m := rn.length) (news := rn.map I) (R := bM g40 [I more] :: ((bR g7 ra X x.length cx :: bA g4 rt R rn.length cr :: bN g3 n A l.length ca B ts.length cb C ns.length cc hd :: Lf))) rfl rfl rfl rfl rfl (sl_run rfl) rfl rfl (OwnS.mt (g := g35)) (by simp) (intsFrom (hr.sh E013)) (intsOne rn) (by omega) (by unfold maxLen; omega) E013 (List.Perm.refl _) ?_
               clear H; intro AE ce Le w hOE E1
               have E016 : SH w0 [] w (bM g40 [I more] :: ((bR g7 ra X x.length cx :: bA g4 rt R rn.length cr :: bN g3 n A l.length ca B ts.length cb C ns.length cc hd :: Lf) ++ Le)) := E1
               clear E1 E013
               rw [Nat.zero_add, List.nil_append] at hOE
               rw [show 0 + rn.length = rn.length from Nat.zero_add _]
               have H := E016.drop (L' := (bR g7 ra X x.length cx :: bA g4 rt R rn.length cr :: bN g3 n A l.length ca B ts.length cb C ns.length cc hd :: Lf)) Sb.out)
            | (refine OPS.appendE (m := rn.length) (news := rn.map I) (R := (bR g7 ra X x.length cx :: bA g4 rt R rn.length cr :: bN g3 n A l.length ca B ts.length cb C ns.length cc hd :: Lf)) rfl rfl rfl rfl rfl (sl_run rfl) rfl rfl (OwnS.mt (g := g35)) (by simp) (intsFrom (hr.sh E003)) (intsOne rn) (by omega) (by unfold maxLen; omega) E003 (List.Perm.refl _) ?_
               clear H; intro AE ce Le w hOE E1
               have E006 : SH w0 [] w ((bR g7 ra X x.length cx :: bA g4 rt R rn.length cr :: bN g3 n A l.length ca B ts.length cb C ns.length cc hd :: Lf) ++ Le) := E1
               clear E1 E003
               rw [Nat.zero_add, List.nil_append] at hOE
               rw [show 0 + rn.length = rn.length from Nat.zero_add _]
               have H := E006.drop (L' := (bR g7 ra X x.length cx :: bA g4 rt R rn.length cr :: bN g3 n A l.length ca B ts.length cb C ns.length cc hd :: Lf)) Sb.out)
            refine OPS.nil ?_
            refine ⟨(by exact H), ?_⟩
            refine OPH.all [9] (by kernel_rfl) (by simp) rfl ?_
            intro i hi; simp only [List.mem_cons, List.not_mem_nil, or_false] at hi
            rcases hi with rfl
            · refine ⟨_, rfl, ?_⟩
              first
              | (refine OPS.append (m := 1) (news := [I more]) (R := bR g9 0 none 0 0 :: (bM g40 [I more] :: ((bR g7 ra X x.length cx :: bA g4 rt R rn.length cr :: bN g3 n A l.length ca B ts.length cb C ns.length cc hd :: Lf)))) rfl rfl rfl rfl rfl (sl_run rfl) rfl rfl hOE rfl (src_own E116 1 rfl) rfl (by omega) (by unfold maxLen; omega) E116 (List.Perm.refl _) ?_
                 clear H hOE; intro AE ce Le w hOE E1
                 rw [show rn.map I ++ [I more] = (rn ++ [more]).map I by simp] at hOE
                 have E119 : SH w0 [] w (bR g9 0 none 0 0 :: (bM g40 [I more] :: ((bR g7 ra X x.length cx :: bA g4 rt R rn.length cr :: bN g3 n A l.length ca B ts.length cb C ns.length cc hd :: Lf) ++ Le))) := E1
                 clear E1 E116
                 have H := E119.drop (L' := (bR g7 ra X x.length cx :: bA g4 rt R rn.length cr :: bN g3 n A l.length ca B ts.length cb C ns.length cc hd :: Lf)) Sb.out)
              | (refine OPS.append (m := 1) (news := [I more]) (R := bM g40 [I more] :: ((bR g7 ra X x.length cx :: bA g4 rt R rn.length cr :: bN g3 n A l.length ca B ts.length cb C ns.length cc hd :: Lf))) rfl rfl rfl rfl rfl (sl_run rfl) rfl rfl hOE rfl (src_own E016 0 rfl) rfl (by omega) (by unfold maxLen; omega) E016 (List.Perm.refl _) ?_
                 clear H hOE; intro AE ce Le w hOE E1
                 rw [show rn.map I ++ [I more] = (rn ++ [more]).map I by simp] at hOE
                 have E019 : SH w0 [] w (bM g40 [I more] :: ((bR g7 ra X x.length cx :: bA g4 rt R rn.length cr :: bN g3 n A l.length ca B ts.length cb C ns.length cc hd :: Lf) ++ Le)) := E1
                 clear E1 E016
                 have H := E019.drop (L' := (bR g7 ra X x.length cx :: bA g4 rt R rn.length cr :: bN g3 n A l.length ca B ts.length cb C ns.length cc hd :: Lf)) Sb.out)
              refine OPS.nil ?_
              refine ⟨(by exact H), ?_⟩
              refine OPH.all [10] (by kernel_rfl) (by simp) rfl ?_
              intro i hi; simp only [List.mem_cons, List.not_mem_nil, or_false] at hi
              rcases hi with rfl
              · refine ⟨_, rfl, ?_⟩
                first
                | (refine OPS.call (d := some 42) rfl rfl rfl (EvC.func (fun_run rfl)) (hmk w AE ce (hz.sh E119) (ht.sh E119) (hn.sh E119) (ownS_at hOE E119 Sb.out)) ?_
                   rintro _ w ⟨eb, rb, y, Y, cy, Lm, rfl, hM, hOY, Hc⟩
                   refine ⟨_, rfl, ?_⟩
                   have E1 := SH.call (L1 := bR g9 0 none 0 0 :: ((bR g7 ra X x.length cx :: bA g4 rt R rn.length cr :: bN g3 n A l.length ca B ts.length cb C ns.length cc hd :: Lf))) (Lv := []) (by rw [List.append_nil]; exact E119.drop (List.Sublist.cons_cons _ Sb.out)) Hc
                   have E10X : SH w0 [] w (bR g9 0 none 0 0 :: ((bR g7 ra X x.length cx :: bA g4 rt R rn.length cr :: bN g3 n A l.length ca B ts.length cb C ns.length cc hd :: Lf) ++ Lm)) := E1
                   clear E1 Hc H E119
                   have H := E10X.drop (L' := (bR g7 ra X x.length cx :: bA g4 rt R rn.length cr :: bN g3 n A l.length ca B ts.length cb C ns.length cc hd :: Lf)) Sb.out)
                | (refine OPS.call (d := some 42) rfl rfl rfl (EvC.func (fun_run rfl)) (hmk w AE ce (hz.sh E019) (ht.sh E019) (hn.sh E019) (ownS_at hOE E019 Sb.out)) ?_
                   rintro _ w ⟨eb, rb, y, Y, cy, Lm, rfl, hM, hOY, Hc⟩
                   refine ⟨_, rfl, ?_⟩
                   have E1 := SH.call (L1 := (bR g7 ra X x.length cx :: bA g4 rt R rn.length cr :: bN g3 n A l.length ca B ts.length cb C ns.length cc hd :: Lf)) (Lv := []) (by rw [List.append_nil]; exact E019.drop (Sb.out)) Hc
                   have E00X : SH w0 [] w ((bR g7 ra X x.length cx :: bA g4 rt R rn.length cr :: bN g3 n A l.length ca B ts.length cb C ns.length cc hd :: Lf) ++ Lm) := E1
                   clear E1 Hc H E019
                   have H := E00X.drop (L' := (bR g7 ra X x.length cx :: bA g4 rt R rn.length cr :: bN g3 n A l.length ca B ts.length cb C ns.length cc hd :: Lf)) Sb.out)
                refine OPS.nil ?_
                refine ⟨(by exact H), ?_⟩
                refine OPH.take 11 rfl rfl rfl rfl (by kernel_rfl) (by kernel_rfl) (by kernel_rfl) rfl (by exact H) (fun w H => Ev.mvT rfl) ?_
                refine OPH.take 12 rfl rfl rfl rfl (by kernel_rfl) (by kernel_rfl) (by kernel_rfl) rfl (by exact H) (fun w H => Ev.extract rfl rfl) ?_
                refine OPH.take 13 rfl rfl rfl rfl (by kernel_rfl) (by kernel_rfl) (by kernel_rfl) rfl (by exact H) (fun w H => Ev.extract rfl rfl) ?_
                refine OPH.all [15] (by kernel_rfl) (by simp) rfl ?_
                intro i hi; simp only [List.mem_cons, List.not_mem_nil, or_false] at hi
                rcases hi with rfl
                · refine ⟨_, rfl, ?_⟩
                  refine OPS.store 0 _ rfl rfl rfl (size_run rfl) rfl (cA rfl) rfl rfl E10X rfl (by simp) ?_
                  clear H; intro w E1; clear E10X
                  simp only [List.set_cons_zero, putL] at E1
                  have H := E1.drop (L' := (bR g7 ra X x.length cx :: bA g4 rt R rn.length cr :: bN g3 n A l.length ca B ts.length cb C ns.length cc hd :: Lf)) Sb.out
                  refine OPS.nil ?_
                  refine ⟨(by exact H), ?_⟩
                  refine OPH.take 16 rfl rfl rfl rfl (by kernel_rfl) (by kernel_rfl) (by kernel_rfl) rfl (by exact H) (fun w H => Ev.asI rfl) ?_
                  refine OPH.done (by kernel_rfl) ?_
                  exact ⟨(by repeat (first | exact Agree.refl _ _ | exact Agree.mix _ _ _ | refine Agree.upd rfl ?_ | refine Agree.mix2 rfl ?_)), eb, rb, y, Y, cy, Lm, g9, rfl, rfl, hM, hOY, E1⟩
      · refine ⟨_, rfl, ?_⟩
        first
        | (refine OPS.buildSlice rfl rfl rfl rfl (bsl_29_1_0 rfl) E106 ?_
           clear H; intro g40 w E1
           have E116 : SH w0 [] w (bR g9 0 none 0 0 :: (bM g40 [I more] :: ((bR g7 ra X x.length cx :: bA g4 rt R rn.length cr :: bN g3 n A l.length ca B ts.length cb C ns.length cc hd :: Lf) ++ Le))) := E1.perm (List.Perm.swap _ _ _)
           clear E1 E106
           have H := E116.drop (L' := (bR g7 ra X x.length cx :: bA g4 rt R rn.length cr :: bN g3 n A l.length ca B ts.length cb C ns.length cc hd :: Lf)) Sb.out)
        | (refine OPS.buildSlice rfl rfl rfl rfl (bsl_29_1_0 rfl) E103 ?_
           clear H; intro g40 w E1
           have E113 : SH w0 [] w (bR g9 0 none 0 0 :: (bM g40 [I more] :: ((bR g7 ra X x.length cx :: bA g4 rt R rn.length cr :: bN g3 n A l.length ca B ts.length cb C ns.length cc hd :: Lf) ++ [⟨g35, 3, []⟩]))) := E1.perm (List.Perm.swap _ _ _)
           clear E1 E103
           have H := E113.drop (L' := (bR g7 ra X x.length cx :: bA g4 rt R rn.length cr :: bN g3 n A l.length ca B ts.length cb C ns.length cc hd :: Lf)) Sb.out)
        | (refine OPS.buildSlice rfl rfl rfl rfl (bsl_29_1_0 rfl) E100 ?_
           clear H; intro g40 w E1
           have E110 : SH w0 [] w (bR g9 0 none 0 0 :: (bM g40 [I more] :: ((bR g7 ra X x.length cx :: bA g4 rt R rn.length cr :: bN g3 n A l.length ca B ts.length cb C ns.length cc hd :: Lf)))) := E1.perm (List.Perm.swap _ _ _)
           clear E1 E100
           have H := E110.drop (L' := (bR g7 ra X x.length cx :: bA g4 rt R rn.length cr :: bN g3 n A l.length ca B ts.length cb C ns.length cc hd :: Lf)) Sb.out)
        | (refine OPS.buildSlice rfl rfl rfl rfl (bsl_29_1_0 rfl) E006 ?_
           clear H; intro g40 w E1
           have E016 : SH w0 [] w (bM g40 [I more] :: ((bR g7 ra X x.length cx :: bA g4 rt R rn.length cr :: bN g3 n A l.length ca B ts.length cb C ns.length cc hd :: Lf) ++ Le)) := E1
           clear E1 E006
           have H := E016.drop (L' := (bR g7 ra X x.length cx :: bA g4 rt R rn.length cr :: bN g3 n A l.length ca B ts.length cb C ns.length cc hd :: Lf)) Sb.out)
        | (refine OPS.buildSlice rfl rfl rfl rfl (bsl_29_1_0 rfl) E003 ?_
           clear H; intro g40 w E1
           have E013 : SH w0 [] w (bM g40 [I more] :: ((bR g7 ra X x.length cx :: bA g4 rt R rn.length cr :: bN g3 n A l.length ca B ts.length cb C ns.length cc hd :: Lf) ++ [⟨g35, 3, []⟩])) := E1
           clear E1 E003
           have H := E013.drop (L' := (bR g7 ra X x.length cx :: bA g4 rt R rn.length cr :: bN g3 n A l.length ca B ts.length cb C ns.length cc hd :: Lf)) Sb.out)
        | (refine OPS.buildSlice rfl rfl rfl rfl (bsl_29_1_0 rfl) (E000.toBelow hbw4) ?_
           clear H; intro g40 w E1
           have E010 : SH w0 [] w (bM g40 [I more] :: ((bR g7 ra X x.length cx :: bA g4 rt R rn.length cr :: bN g3 n A l.length ca B ts.length cb C ns.length cc hd :: Lf))) := E1
           clear E1 E000
           have H := E010.drop (L' := (bR g7 ra X x.length cx :: bA g4 rt R rn.length cr :: bN g3 n A l.length ca B ts.length cb C ns.length cc hd :: Lf)) Sb.out)
        refine OPS.nil ?_
        refine ⟨(by exact H), ?_⟩
        refine OPH.all [3] (by kernel_rfl) (by simp) rfl ?_
        intro i hi; simp only [List.mem_cons, List.not_mem_nil, or_false] at hi
        rcases hi with rfl
        · refine ⟨_, rfl, ?_⟩
          first
          | (refine OPS.buildSlice rfl rfl rfl rfl (bsl_29_0_ (e := fun _ => .int .i64 0)) E110 ?_
             clear H; intro g35 w E1
             have E113 : SH w0 [] w (bR g9 0 none 0 0 :: (bM g40 [I more] :: ((bR g7 ra X x.length cx :: bA g4 rt R rn.length cr :: bN g3 n A l.length ca B ts.length cb C ns.length cc hd :: Lf) ++ [⟨g35, 3, []⟩]))) := E1.perm (by exact permBy fun f => by simp <;> omega)
             clear E1 E110
             have H := E113.drop (L' := (bR g7 ra X x.length cx :: bA g4 rt R rn.length cr :: bN g3 n A l.length ca B ts.length cb C ns.length cc hd :: Lf)) Sb.out)
          | (refine OPS.buildSlice rfl rfl rfl rfl (bsl_29_0_ (e := fun _ => .int .i64 0)) E100 ?_
             clear H; intro g35 w E1
             have E103 : SH w0 [] w (bR g9 0 none 0 0 :: ((bR g7 ra X x.length cx :: bA g4 rt R rn.length cr :: bN g3 n A l.length ca B ts.length cb C ns.length cc hd :: Lf) ++ [⟨g35, 3, []⟩])) := E1.perm (by exact permBy fun f => by simp <;> omega)
             clear E1 E100
             have H := E103.drop (L' := (bR g7 ra X x.length cx :: bA g4 rt R rn.length cr :: bN g3 n A l.length ca B ts.length cb C ns.length cc hd :: Lf)) Sb.out)
          | (refine OPS.buildSlice rfl rfl rfl rfl (bsl_29_0_ (e := fun _ => .int .i64 0)) E010 ?_
             clear H; intro g35 w E1
             have E013 : SH w0 [] w (bM g40 [I more] :: ((bR g7 ra X x.length cx :: bA g4 rt R rn.length cr :: bN g3 n A l.length ca B ts.length cb C ns.length cc hd :: Lf) ++ [⟨g35, 3, []⟩])) := E1.perm (by exact permBy fun f => by simp <;> omega)
             clear E1 E010
             have H := E013.drop (L' := (bR g7 ra X x.length cx :: bA g4 rt R rn.length cr :: bN g3 n A l.length ca B ts.length cb C ns.length cc hd :: Lf)) Sb.out)
          | (refine OPS.buildSlice rfl rfl rfl rfl (bsl_29_0_ (e := fun _ => .int .i64 0)) (E000.toBelow hbw4) ?_
             clear H; intro g35 w E1
             have E003 : SH w0 [] w ((bR g7 ra X x.length cx :: bA g4 rt R rn.length cr :: bN g3 n A l.length ca B ts.length cb C ns.length cc hd :: Lf) ++ [⟨g35, 3, []⟩]) := E1.perm (by exact permBy fun f => by simp <;> omega)
             clear E1 E000
             have H := E003.drop (L' := (bR g7 ra X x.length cx :: bA g4 rt R rn.length cr :: bN g3 n A l.length ca B ts.length cb C ns.length cc hd :: Lf)) Sb.out)
          refine OPS.nil ?_
          refine ⟨(by exact H), ?_⟩
          refine OPH.all [6] (by kernel_rfl) (by simp) rfl ?_
          intro i hi; simp only [List.mem_cons, List.not_mem_nil, or_false] at hi
          rcases hi with rfl
          · refine ⟨_, rfl, ?_⟩
            first
            | (refine OPS.appendE (m := rn.length) (news := rn.map I) (R := bR g9 0 none 0 0 :: (bM g40 [I more] :: ((bR g7 ra X x.length cx :: bA g4 rt R rn.length cr :: bN g3 n A l.length ca B ts.length cb C ns.length cc hd :: Lf)))) rfl rfl rfl rfl rfl (sl_run rfl) rfl rfl (OwnS.mt (g := g35)) (by simp) (intsFrom (hr.sh E113)) (intsOne rn) (by omega) (by unfold maxLen; omega) E113 (List.Perm.refl _) ?_
               clear H; intro AE ce Le w hOE E1
               have E116 : SH w0 [] w (bR g9 0 none 0 0 :: (bM g40 [I more] :: ((bR g7 ra X x.length cx :: bA g4 rt R rn.length cr :: bN g3 n A l.length ca B ts.length cb C ns.length cc hd :: Lf) ++ Le))) := E1
               clear E1 E113
               rw [Nat.zero_add, List.nil_append] at hOE
               rw [show 0 + rn.length = rn.length from Nat.zero_add _]
               have H := E116.drop (L' := (bR g7 ra X x.length cx :: bA g4 rt R rn.length cr :: bN g3 n A l.length ca B ts.length cb C ns.length cc hd :: Lf)) Sb.out)
            | (refine OPS.appendE (m := rn.length) (news := rn.map I) (R := bR g9 0 none 0 0 :: ((bR g7 ra X x.length cx :: bA g4 rt R rn.length cr :: bN g3 n A l.length ca B ts.length cb C ns.length cc hd :: Lf))) rfl rfl rfl rfl rfl (sl_run rfl) rfl rfl (OwnS.mt (g := g35)) (by simp) (intsFrom (hr.sh E103)) (intsOne rn) (by omega) (by unfold maxLen; omega) E103 (List.Perm.refl _) ?_
               clear H; intro AE ce Le w hOE E1
               have E106 : SH w0 [] w (bR g9 0 none 0 0 :: ((bR g7 ra X x.length cx :: bA g4 rt R rn.length cr :: bN g3 n A l.length ca B ts.length cb C ns.length cc hd :: Lf) ++ Le)) := E1
               clear E1 E103
               rw [Nat.zero_add, List.nil_append] at hOE
               rw [show 0 + rn.length = rn.length from Nat.zero_add _]
               have H := E106.drop (L' := (bR g7 ra X x.length cx :: bA g4 rt R rn.length cr :: bN g3 n A l.length ca B ts.length cb C ns.length cc hd :: Lf)) Sb.out)
            | (refine OPS.appendE (m := rn.length) (news := rn.map I) (R := bM g40 [I more] :: ((bR g7 ra X x.length cx :: bA g4 rt R rn.length cr :: bN g3 n A l.length ca B ts.length cb C ns.length cc hd :: Lf))) rfl rfl rfl rfl rfl (sl_run rfl) rfl rfl (OwnS.mt (g := g35)) (by simp) (intsFrom (hr.sh E013)) (intsOne rn) (by omega) (by unfold maxLen; omega) E013 (List.Perm.refl _) ?_
               clear H; intro AE ce Le w hOE E1
               have E016 : SH w0 [] w (bM g40 [I more] :: ((bR g7 ra X x.length cx :: bA g4 rt R rn.length cr :: bN g3 n A l.length ca B ts.length cb C ns.length cc hd :: Lf) ++ Le)) := E1
               clear E1 E013
               rw [Nat.zero_add, List.nil_append] at hOE
               rw [show 0 + rn.length = rn.length from Nat.zero_add _]
               have H := E016.drop (L' := (bR g7 ra X x.length cx :: bA g4 rt R rn.length cr :: bN g3 n A l.length ca B ts.length cb C ns.length cc hd :: Lf)) Sb.out)
            | (refine OPS.appendE (m := rn.length) (news := rn.map I) (R := (bR g7 ra X x.length cx :: bA g4 rt R rn.length cr :: bN g3 n A l.length ca B ts.length cb C ns.length cc hd :: Lf)) rfl rfl rfl rfl rfl (sl_run rfl) rfl rfl (OwnS.mt (g := g35)) (by simp) (intsFrom (hr.sh E003)) (intsOne rn) (by omega) (by unfold maxLen; omega) E003 (List.Perm.refl _) ?_
               clear H; intro AE ce Le w hOE E1
               have E006 : SH w0 [] w ((bR g7 ra X x.length cx :: bA g4 rt R rn.length cr :: bN g3 n A l.length ca B ts.length cb C ns.length cc hd :: Lf) ++ Le) := E1
               clear E1 E003
               rw [Nat.zero_add, List.nil_append] at hOE
               rw [show 0 + rn.length = rn.length from Nat.zero_add _]
               have H := E006.drop (L' := (bR g7 ra X x.length cx :: bA g4 rt R rn.length cr :: bN g3 n A l.length ca B ts.length cb C ns.length cc hd :: Lf)) Sb.out)
            refine OPS.nil ?_
            refine ⟨(by exact H), ?_⟩
            refine OPH.all [9] (by kernel_rfl) (by simp) rfl ?_
            intro i hi; simp only [List.mem_cons, List.not_mem_nil, or_false] at hi
            rcases hi with rfl
            · refine ⟨_, rfl, ?_⟩
              first
              | (refine OPS.append (m := 1) (news := [I more]) (R := bR g9 0 none 0 0 :: (bM g40 [I more] :: ((bR g7 ra X x.length cx :: bA g4 rt R rn.length cr :: bN g3 n A l.length ca B ts.length cb C ns.length cc hd :: Lf)))) rfl rfl rfl rfl rfl (sl_run rfl) rfl rfl hOE rfl (src_own E116 1 rfl) rfl (by omega) (by unfold maxLen; omega) E116 (List.Perm.refl _) ?_
                 clear H hOE; intro AE ce Le w hOE E1
                 rw [show rn.map I ++ [I more] = (rn ++ [more]).map I by simp] at hOE
                 have E119 : SH w0 [] w (bR g9 0 none 0 0 :: (bM g40 [I more] :: ((bR g7 ra X x.length cx :: bA g4 rt R rn.length cr :: bN g3 n A l.length ca B ts.length cb C ns.length cc hd :: Lf) ++ Le))) := E1
                 clear E1 E116
                 have H := E119.drop (L' := (bR g7 ra X x.length cx :: bA g4 rt R rn.length cr :: bN g3 n A l.length ca B ts.length cb C ns.length cc hd :: Lf)) Sb.out)
              | (refine OPS.append (m := 1) (news := [I more]) (R := bM g40 [I more] :: ((bR g7 ra X x.length cx :: bA g4 rt R rn.length cr :: bN g3 n A l.length ca B ts.length cb C ns.length cc hd :: Lf))) rfl rfl rfl rfl rfl (sl_run rfl) rfl rfl hOE rfl (src_own E016 0 rfl) rfl (by omega) (by unfold maxLen; omega) E016 (List.Perm.refl _) ?_
                 clear H hOE; intro AE ce Le w hOE E1
                 rw [show rn.map I ++ [I more] = (rn ++ [more]).map I by simp] at hOE
                 have E019 : SH w0 [] w (bM g40 [I more] :: ((bR g7 ra X x.length cx :: bA g4 rt R rn.length cr :: bN g3 n A l.length ca B ts.length cb C ns.length cc hd :: Lf) ++ Le)) := E1
                 clear E1 E016
                 have H := E019.drop (L' := (bR g7 ra X x.length cx :: bA g4 rt R rn.length cr :: bN g3 n A l.length ca B ts.length cb C ns.length cc hd :: Lf)) Sb.out)
              refine OPS.nil ?_
              refine ⟨(by exact H), ?_⟩
              refine OPH.all [10] (by kernel_rfl) (by simp) rfl ?_
              intro i hi; simp only [List.mem_cons, List.not_mem_nil, or_false] at hi
              rcases hi with rfl
              · refine ⟨_, rfl, ?_⟩
                first
                | (refine OPS.call (d := some 42) rfl rfl rfl (EvC.func (fun_run rfl)) (hmk w AE ce (hz.sh E119) (ht.sh E119) (hn.sh E119) (ownS_at hOE E119 Sb.out)) ?_
                   rintro _ w ⟨eb, rb, y, Y, cy, Lm, rfl, hM, hOY, Hc⟩
                   refine ⟨_, rfl, ?_⟩
                   have E1 := SH.call (L1 := bR g9 0 none 0 0 :: ((bR g7 ra X x.length cx :: bA g4 rt R rn.length cr :: bN g3 n A l.length ca B ts.length cb C ns.length cc hd :: Lf))) (Lv := []) (by rw [List.append_nil]; exact E119.drop (List.Sublist.cons_cons _ Sb.out)) Hc
                   have E10X : SH w0 [] w (bR g9 0 none 0 0 :: ((bR g7 ra X x.length cx :: bA g4 rt R rn.length cr :: bN g3 n A l.length ca B ts.length cb C ns.length cc hd :: Lf) ++ Lm)) := E1
                   clear E1 Hc H E119
                   have H := E10X.drop (L' := (bR g7 ra X x.length cx :: bA g4 rt R rn.length cr :: bN g3 n A l.length ca B ts.length cb C ns.length cc hd :: Lf)) Sb.out)
                | (refine OPS.call (d := some 42) rfl rfl rfl (EvC.func (fun_run rfl)) (hmk w AE ce (hz.sh E019) (ht.sh E019) (hn.sh E019) (ownS_at hOE E019 Sb.out)) ?_
                   rintro _ w ⟨eb, rb, y, Y, cy, Lm, rfl, hM, hOY, Hc⟩
                   refine ⟨_, rfl, ?_⟩
                   have E1 := SH.call (L1 := (bR g7 ra X x.length cx :: bA g4 rt R rn.length cr :: bN g3 n A l.length ca B ts.length cb C ns.length cc hd :: Lf)) (Lv := []) (by rw [List.append_nil]; exact E019.drop (Sb.out)) Hc
                   have E00X : SH w0 [] w ((bR g7 ra X x.length cx :: bA g4 rt R rn.length cr :: bN g3 n A l.length ca B ts.length cb C ns.length cc hd :: Lf) ++ Lm) := E1
                   clear E1 Hc H E019
                   have H := E00X.drop (L' := (bR g7 ra X x.length cx :: bA g4 rt R rn.length cr :: bN g3 n A l.length ca B ts.length cb C ns.length cc hd :: Lf)) Sb.out)
                refine OPS.nil ?_
                refine ⟨(by exact H), ?_⟩
                refine OPH.take 11 rfl rfl rfl rfl (by kernel_rfl) (by kernel_rfl) (by kernel_rfl) rfl (by exact H) (fun w H => Ev.mvT rfl) ?_
                refine OPH.take 12 rfl rfl rfl rfl (by kernel_rfl) (by kernel_rfl) (by kernel_rfl) rfl (by exact H) (fun w H => Ev.extract rfl rfl) ?_
                refine OPH.take 13 rfl rfl rfl rfl (by kernel_rfl) (by kernel_rfl) (by kernel_rfl) rfl (by exact H) (fun w H => Ev.extract rfl rfl) ?_
                refine OPH.all [15] (by kernel_rfl) (by simp) rfl ?_
                intro i hi; simp only [List.mem_cons, List.not_mem_nil, or_false] at hi
                rcases hi with rfl
                · refine ⟨_, rfl, ?_⟩
                  refine OPS.store 0 _ rfl rfl rfl (size_run rfl) rfl (cA rfl) rfl rfl E10X rfl (by simp) ?_
                  clear H; intro w E1; clear E10X
                  simp only [List.set_cons_zero, putL] at E1
                  have H := E1.drop (L' := (bR g7 ra X x.length cx :: bA g4 rt R rn.length cr :: bN g3 n A l.length ca B ts.length cb C ns.length cc hd :: Lf)) Sb.out
                  refine OPS.nil ?_
                  refine ⟨(by exact H), ?_⟩
                  refine OPH.take 16 rfl rfl rfl rfl (by kernel_rfl) (by kernel_rfl) (by kernel_rfl) rfl (by exact H) (fun w H => Ev.asI rfl) ?_
                  refine OPH.done (by kernel_rfl) ?_
                  exact ⟨(by repeat (first | exact Agree.refl _ _ | exact Agree.mix _ _ _ | refine Agree.upd rfl ?_ | refine Agree.mix2 rfl ?_)), eb, rb, y, Y, cy, Lm, g9, rfl, rfl, hM, hOY, E1⟩
  clear H
  rintro u w ⟨eb, rb, y, Y, cy, Lm, g9, h9, h10, hM, hOY, H⟩
  refine WP.know (t := 9) h9 (WP.know (t := 10) h10 ?_)
  clear E000
  have hyl := hM.len
  simp only [List.cons_append] at H
  refine WP.seq ?_
  refine WP.seq ?_
  refine WP.region ?_
  refine OPS.val rfl rfl rfl (Ev.mvI rfl) ?_
  refine OPS.val rfl rfl rfl (Ev.neq rfl rfl) ?_
  refine OPS.val rfl rfl rfl (Ev.mvB rfl) ?_
  refine OPS.gval rfl rfl rfl rfl rfl (fun hg => Ev.mvI (by rfl)) ?_
  refine OPS.gval rfl rfl rfl rfl rfl (fun hg => Ev.neq (by exact gvE hg rfl) (by rfl)) ?_
  refine OPS.val rfl rfl rfl ((by exact Ev.pickOr rfl rfl rfl)) ?_
  refine OPS.nil ?_
  refine WP.cond rfl (fun hc5 => ?_) (fun hc5 => ?_)
  · have hbad : ea ≠ 0 ∨ eb ≠ 0 := by
      by_cases h : ea = 0
      · simp [h] at hc5; exact .inr hc5
      · exact .inl h
    have hxa : ea = 0 ∨ x = [] := by
      by_cases h : ea = 0
      · exact .inl h
      · exact .inr (hA.bad h).1
    have hya : eb = 0 ∨ y = [] := by
      by_cases h : eb = 0
      · exact .inl h
      · exact .inr (hM.bad h).1
    refine WP.seq ?_
    refine WP.region ?_
    refine OPS.val rfl rfl rfl (Ev.mvI rfl) ?_
    refine OPS.val rfl rfl rfl (Ev.eql rfl rfl) ?_
    refine OPS.val rfl rfl rfl (Ev.mvB rfl) ?_
    refine OPS.gval rfl rfl rfl rfl rfl (fun hg => Ev.fieldAddr (fld_run rfl) (by rfl)) ?_
    refine OPS.gval rfl rfl rfl rfl rfl (fun hg => Ev.load1 (agg_run rfl) (by exact gvE hg rfl) (by exact H.ldL 1 rfl _ rfl)) ?_
    refine OPS.gval rfl rfl rfl rfl rfl (fun hg => Ev.len (el_run rfl) (by exact gvE hg rfl)) ?_
    refine OPS.gval rfl rfl rfl rfl rfl (fun hg => Ev.eql (by exact gvE hg rfl) (by rfl)) ?_
    refine OPS.val rfl rfl rfl ((by exact Ev.pickOr rfl rfl rfl)) ?_
    refine OPS.val rfl rfl rfl (Ev.mvB rfl) ?_
    refine OPS.gval rfl rfl rfl rfl rfl (fun hg => Ev.mvI (by rfl)) ?_
    refine OPS.gval rfl rfl rfl rfl rfl (fun hg => Ev.eql (by exact gvE hg rfl) (by rfl)) ?_
    refine OPS.gval rfl rfl rfl rfl rfl (fun hg => Ev.mvB (by exact gvE hg rfl)) ?_
    refine OPS.gvalN rfl rfl (GB.g rfl) rfl rfl (fun hg => Ev.fieldAddr (fld_run rfl) (by rfl)) ?_
    refine OPS.gvalN rfl rfl (GB.g rfl) rfl rfl (fun hg => Ev.load1 (agg_run rfl) (by exact gvE hg rfl) (by exact H.ldL 0 rfl _ rfl)) ?_
    refine OPS.gvalN rfl rfl (GB.g rfl) rfl rfl (fun hg => Ev.len (el_run rfl) (by exact gvE hg rfl)) ?_
    refine OPS.gvalN rfl rfl (GB.g rfl) rfl rfl (fun hg => Ev.eql (by exact gvE hg rfl) (by rfl)) ?_
    refine OPS.gval rfl rfl rfl rfl rfl (fun hg => (by exact Ev.pickOr2 (beqT hg) (gvE hg rfl) rfl rfl)) ?_
    refine OPS.val rfl rfl rfl ((by exact Ev.pickAnd rfl rfl rfl)) ?_
    refine OPS.val rfl rfl rfl (Ev.mvB rfl) ?_
    refine OPS.gcall0 (f := 10) (lawAwakeR _) (fun _ _ h => h) rfl rfl rfl rfl rfl (fun hg => (EvC.func (fun_run rfl))) ?_
    intro w hbc; replace H := H.toBelow hbc
    refine OPS.val rfl rfl rfl ((by exact Ev.pickAnd rfl rfl rfl)) ?_
    refine OPS.val rfl rfl rfl (Ev.asB rfl) ?_
    refine OPS.nil ?_
    refine WP.ret ⟨_, rfl, ?_⟩
    refine ⟨ret_b rfl ?_, H.below⟩
    rcases hxa with hxa | hxa <;> rcases hya with hya | hya <;> simp [hxa, hya]
  have hgood : ea = 0 ∧ eb = 0 := by
    by_cases h : ea = 0
    · simp [h] at hc5; exact ⟨h, hc5⟩
    · simp [h] at hc5
  obtain ⟨rfl, rfl⟩ := hgood
  obtain ⟨⟨m1, m2, m3⟩, m4, m5⟩ := more_ok hA hM
  refine WP.skip ?_
  refine WP.seq ?_
  refine WP.region ?_
  refine OPS.val rfl rfl rfl ((by exact Ev.loadO 3 H rfl (agg_run rfl) (size_run rfl) (by rfl) rfl)) ?_
  refine OPS.val rfl rfl rfl (Ev.fieldAddr (fld_run rfl) rfl) ?_
  refine OPS.val rfl rfl rfl (Ev.load1 (agg_run rfl) rfl (by exact H.ldL 1 rfl _ rfl)) ?_
  refine OPS.call (d := some 76) rfl rfl rfl (EvC.func (fun_run rfl)) (routeMovedX n hd A B C X l ts ns x ca cb cc cx w (hz.sh H) (ht.sh H) (hn.sh H) hcc (ownS_at hOX H Sb.out) (by omega)) ?_
  rintro _ w ⟨rfl, hb⟩
  refine ⟨_, rfl, ?_⟩
  replace H := H.toBelow hb; clear hb
  refine OPS.val rfl rfl rfl (Ev.mvT rfl) ?_
  refine OPS.val rfl rfl rfl (Ev.extract rfl rfl) ?_
  refine OPS.val rfl rfl rfl (Ev.extract rfl rfl) ?_
  refine OPS.val rfl rfl rfl (Ev.asI rfl) ?_
  refine OPS.val rfl rfl rfl (Ev.asI rfl) ?_
  refine OPS.nil ?_
  refine WP.seq ?_
  refine WP.region ?_
  refine OPS.val rfl rfl rfl ((by exact Ev.loadO 3 H rfl (agg_run rfl) (size_run rfl) (by rfl) rfl)) ?_
  refine OPS.val rfl rfl rfl (Ev.fieldAddr (fld_run rfl) rfl) ?_
  refine OPS.val rfl rfl rfl (Ev.load1 (agg_run rfl) rfl (by exact H.ldL 0 rfl _ rfl)) ?_
  refine OPS.call (d := some 83) rfl rfl rfl (EvC.func (fun_run rfl)) (routeMovedX n hd A B C Y l ts ns y ca cb cc cy w (hz.sh H) (ht.sh H) (hn.sh H) hcc (ownS_at hOY H Sb.out) (by omega)) ?_
  rintro _ w ⟨rfl, hb⟩
  refine ⟨_, rfl, ?_⟩
  replace H := H.toBelow hb; clear hb
  refine OPS.val rfl rfl rfl (Ev.mvT rfl) ?_
  refine OPS.val rfl rfl rfl (Ev.extract rfl rfl) ?_
  refine OPS.val rfl rfl rfl (Ev.extract rfl rfl) ?_
  refine OPS.val rfl rfl rfl (Ev.asI rfl) ?_
  refine OPS.val rfl rfl rfl (Ev.asI rfl) ?_
  refine OPS.nil ?_
  refine WP.seq ?_
  refine WP.region ?_
  refine OPS.val rfl rfl rfl ((by exact Ev.loadO 3 H rfl (agg_run rfl) (size_run rfl) (by rfl) rfl)) ?_
  refine OPS.val rfl rfl rfl (Ev.fieldAddr (fld_run rfl) rfl) ?_
  refine OPS.val rfl rfl rfl (Ev.load1 (agg_run rfl) rfl (by exact H.ldL 2 rfl _ rfl)) ?_
  refine OPS.call (d := some 90) rfl rfl rfl (EvC.func (fun_run rfl)) (routeMovedX n hd A B C R l ts ns rn ca cb cc cr w (hz.sh H) (ht.sh H) (hn.sh H) hcc (hr.sh H) (by omega)) ?_
  rintro _ w ⟨rfl, hb⟩
  refine ⟨_, rfl, ?_⟩
  replace H := H.toBelow hb; clear hb
  refine OPS.val rfl rfl rfl (Ev.mvT rfl) ?_
  refine OPS.val rfl rfl rfl (Ev.extract rfl rfl) ?_
  refine OPS.val rfl rfl rfl (Ev.extract rfl rfl) ?_
  refine OPS.val rfl rfl rfl (Ev.asI rfl) ?_
  refine OPS.val rfl rfl rfl (Ev.asI rfl) ?_
  refine OPS.nil ?_
  refine WP.seq ?_
  refine WP.region ?_
  refine OPS.val rfl rfl rfl (Ev.mvI rfl) ?_
  refine OPS.val rfl rfl rfl (Ev.eql rfl rfl) ?_
  refine OPS.val rfl rfl rfl (Ev.mvB rfl) ?_
  refine OPS.gval rfl rfl rfl rfl rfl (fun hg => Ev.mvI (by rfl)) ?_
  refine OPS.gval rfl rfl rfl rfl rfl (fun hg => Ev.eql (by exact gvE hg rfl) (by rfl)) ?_
  refine OPS.val rfl rfl rfl ((by exact Ev.pickAnd rfl rfl rfl)) ?_
  refine OPS.val rfl rfl rfl (Ev.mvB rfl) ?_
  refine OPS.gval rfl rfl rfl rfl rfl (fun hg => Ev.mvI (by rfl)) ?_
  refine OPS.gval rfl rfl rfl rfl rfl (fun hg => Ev.eql (by exact gvE hg rfl) (by rfl)) ?_
  refine OPS.val rfl rfl rfl ((by exact Ev.pickAnd rfl rfl rfl)) ?_
  refine OPS.val rfl rfl rfl (Ev.mvB rfl) ?_
  refine OPS.gval rfl rfl rfl rfl rfl (fun hg => Ev.mvI (by rfl)) ?_
  refine OPS.gval rfl rfl rfl rfl rfl (fun hg => Ev.mvI (by rfl)) ?_
  refine OPS.gval rfl rfl rfl rfl rfl (fun hg => Ev.leq (by exact gvE hg rfl) (by exact gvE hg rfl)) ?_
  refine OPS.val rfl rfl rfl ((by exact Ev.pickAnd rfl rfl rfl)) ?_
  refine OPS.val rfl rfl rfl (Ev.mvB rfl) ?_
  refine OPS.gval rfl rfl rfl rfl rfl (fun hg => Ev.mvI (by rfl)) ?_
  refine OPS.gval rfl rfl rfl rfl rfl (fun hg => Ev.mvI (by rfl)) ?_
  refine OPS.gval rfl rfl rfl rfl rfl (fun hg => Ev.leq (by exact gvE hg rfl) (by exact gvE hg rfl)) ?_
  refine OPS.val rfl rfl rfl ((by exact Ev.pickAnd rfl rfl rfl)) ?_
  refine OPS.val rfl rfl rfl (Ev.mvB rfl) ?_
  refine OPS.gcall0 (f := 10) (lawAwakeR _) (fun _ _ h => h) rfl rfl rfl rfl rfl (fun hg => (EvC.func (fun_run rfl))) ?_
  intro w hbc; replace H := H.toBelow hbc
  refine OPS.val rfl rfl rfl ((by exact Ev.pickAnd rfl rfl rfl)) ?_
  refine OPS.val rfl rfl rfl (Ev.asB rfl) ?_
  refine OPS.nil ?_
  refine WP.ret ⟨_, rfl, ?_⟩
  exact ⟨ret_b rfl (by simp [m1, m2, m3, m4, m5]), H.below⟩
end Go.Proofs.Ytfddebpeiilohaa
