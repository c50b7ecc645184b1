/-
  Walks: begin.
-/
import Derived.Test.YtchjbjplddhknaaW11
import Derived.Test.YtchjbjplddhknaaW37
import Derived.Laws.Bits64
set_option linter.all false
namespace Go.Proofs.Ytchjbjplddhknaa
open Go Go.W Go.RowKit

section
variable {P : Program} {N : Nat} {ops : Array Oper} {K : Env → World → Prop} {e : Env} {w w0 : World} {S : List Nat} {L : List Blk} {rest : List Oper} {o : Oper} {t : TypeId} {x y : Operand}
theorem OPS.mkMapB {d : Nat} (k : TypeId) (hop : o.op = .makeMap t none) (hg : o.guard = none) (hd : o.dst = some d) (hN : Nat.blt d N = true) (H : SH w0 S w L)
    (h : ∀ w' gm, gm = w.heap.size → Below w.heap.size w w' → SH w0 S w' L → MapAt P k w' gm [] → OPS P N .plain ops K rest (upd e d (.map (some gm))) w') : OPS P N .plain ops K (o :: rest) e w :=
  OPS.act (w' := w.alloc (.map #[] 0)) hg hd hN (by unfold execOp; rw [hop]; rfl) (h _ _ rfl ((Below.refl _ _).alloc (Nat.le_refl _) _) H.newMap MapAt.made)
theorem OPS.makeSliceB {d el sz bt m : Nat} {n : Int} {k k' : IntKind} {zs : List Value} (hg : o.guard = none) (hd : o.dst = some d) (hN : Nat.blt d N = true) (hop : o.op = .makeSlice t x y) (hf : SlFact P t el sz bt zs)
    (hx : ev e x = .int k n) (hy : ev e y = .int k' n) (hn : n = (m : Int)) (hb : bt * m ≤ 140737488355328) (hm : m ≤ 9223372036854775807) (H : SH w0 S w L)
    (h : ∀ g w', Below w.heap.size w w' → SH w0 S w' (⟨g, el, mkL m zs⟩ :: L) → OPS P N .plain ops K rest (upd e d (.slice (some ⟨g, 0, none⟩) m m)) w') : OPS P N .plain ops K (o :: rest) e w := by
  subst hn
  refine OPS.act (v := .slice (some ⟨w.heap.size, 0, none⟩) m m) (w' := w.alloc (.cells (mkL m zs).toArray el)) hg hd hN ?_ (h _ _ ((Below.refl _ _).alloc (Nat.le_refl _) _) (H.alloc _ _))
  unfold execOp; rw [hop]
  simp only [hx, hy, Sem.run_bind, run_makeSlice_own hf m k k' hb hm w, Result.andThen_ok, Sem.run_pure]
end
def shop : Spt := ⟨5, 0, 0, false, 0⟩
def none0 : Spt := ⟨0, 0, 0, false, 0⟩
theorem set_wh : ∀ (l : List Spt) (j : Nat) (hj : j < l.length) (v : Int), putL (l.flatMap spC) (j * 4) [I v] = (l.set j { l[j] with wh := v }).flatMap spC
  | [], j, hj, _ => by simp at hj
  | x :: l, 0, _, v => rfl
  | x :: l, j + 1, hj, v => by
    have ih := set_wh l j (by simpa using hj) v
    rw [List.flatMap_cons, show (j + 1) * 4 = (spC x).length + j * 4 by rw [spC_len]; omega, putL_append_right, ih]
    rfl
def shops (n j : Nat) : List Spt := List.replicate j shop ++ List.replicate (n - j) none0
theorem shops_len {n j : Nat} (h : j ≤ n) : (shops n j).length = n := by simp [shops]; omega
theorem shops_succ {n j : Nat} (h : j < n) : (shops n j).set j { (shops n j)[j]'(by rw [shops_len (by omega)]; exact h) with wh := 5 } = shops n (j + 1) := by
  have h1 : (shops n j)[j]'(by rw [shops_len (by omega)]; exact h) = none0 := by
    simp [shops, List.getElem_append_right]
  rw [h1]
  show (shops n j).set j shop = _
  unfold shops
  rw [List.set_append_right _ _ (by simp), show n - j = (n - (j + 1)) + 1 by omega, List.replicate_succ, List.replicate_succ']
  simp
theorem begin (f : Flt) (A : Option Addr) (ca : Nat) (B : Option Addr) (cb : Nat) (n : Nat) (hn : f.bk = n) (hn2 : n ≤ 128) (w0 : World) :
    Calls Try.prog 29 #[.agg (flC f A ca B cb).toArray] w0 fun e w' => ∃ (gS gP gO gU : Nat), e = .returned (.pointer (some ⟨gS, 0, none⟩)) ∧ gO ≠ gU ∧ w0.heap.size ≤ gO ∧ w0.heap.size ≤ gU ∧ MapAt Try.prog 3 w' gO [] ∧ MapAt Try.prog 3 w' gU [] ∧
      SH w0 [] w' [⟨gS, 70, flC f A ca B cb ++ [.slice (some ⟨gP, 0, none⟩) n n, .map (some gO), .map (some gU)]⟩, ⟨gP, 42, (List.replicate n shop).flatMap spC⟩] := by
  have H := SH.refl w0
  unfold flC
  refine Calls.ofWP Try.func29 rfl Try.results29 Try.ntmps29 rfl ?_
  refine WP.seq ?_
  refine WP.region ?_
  refine OPS.box rfl rfl rfl rfl (cA rfl) H ?_
  clear H; intro g1 w H
  refine OPS.val rfl rfl rfl (Ev.asP rfl) ?_
  refine OPS.nil ?_
  refine WP.seq ?_
  refine WP.rheldC [3, 5, 6, 7, 8, 9, 10, 11, 12] (fun u w' => ∃ (gS gP gO gU : Nat), u 3 = .pointer (some ⟨gS, 0, none⟩) ∧ gO ≠ gU ∧ w0.heap.size ≤ gO ∧ w0.heap.size ≤ gU ∧ MapAt Try.prog 3 w' gO [] ∧ MapAt Try.prog 3 w' gU [] ∧ SH w0 [] w' [⟨gS, 70, flC f A ca B cb ++ [.slice (some ⟨gP, 0, none⟩) n n, .map (some gO), .map (some gU)]⟩, ⟨gP, 42, mkL n [I 0, I 0, I 0, .bool false]⟩]) mixed H ?_ ?_
  · clear H; intro w hbw1 H
    refine OPH.take 0 rfl rfl rfl rfl (by kernel_rfl) (by kernel_rfl) (by kernel_rfl) rfl (by first | exact H | exact H.drop (List.sublist_cons_self _ _) | exact H.drop ((List.sublist_cons_self _ _).trans (List.sublist_cons_self _ _)) | exact H.drop ((List.sublist_cons_self _ _).trans ((List.sublist_cons_self _ _).trans (List.sublist_cons_self _ _))) | exact H.drop ((List.sublist_cons_self _ _).trans ((List.sublist_cons_self _ _).trans ((List.sublist_cons_self _ _).trans (List.sublist_cons_self _ _)))) | exact H.drop ((List.sublist_cons_self _ _).trans ((List.sublist_cons_self _ _).trans ((List.sublist_cons_self _ _).trans ((List.sublist_cons_self _ _).trans (List.sublist_cons_self _ _)))))) (fun w H => (by first | exact Ev.loadO 0 H rfl (agg_run rfl) (size_run rfl) (by first | assumption | rfl) rfl | exact Ev.loadO 1 H rfl (agg_run rfl) (size_run rfl) (by first | assumption | rfl) rfl | exact Ev.loadO 2 H rfl (agg_run rfl) (size_run rfl) (by first | assumption | rfl) rfl | exact Ev.loadO 3 H rfl (agg_run rfl) (size_run rfl) (by first | assumption | rfl) rfl | exact Ev.loadO 4 H rfl (agg_run rfl) (size_run rfl) (by first | assumption | rfl) rfl | exact Ev.loadO 5 H rfl (agg_run rfl) (size_run rfl) (by first | assumption | rfl) rfl | exact Ev.loadO 6 H rfl (agg_run rfl) (size_run rfl) (by first | assumption | rfl) rfl | (change Ev _ _ _ _ (Op.load 24 (Operand.tmp 1)) _; fail))) ?_
    refine OPH.take 1 rfl rfl rfl rfl (by kernel_rfl) (by kernel_rfl) (by kernel_rfl) rfl (by first | exact H | exact H.drop (List.sublist_cons_self _ _) | exact H.drop ((List.sublist_cons_self _ _).trans (List.sublist_cons_self _ _)) | exact H.drop ((List.sublist_cons_self _ _).trans ((List.sublist_cons_self _ _).trans (List.sublist_cons_self _ _))) | exact H.drop ((List.sublist_cons_self _ _).trans ((List.sublist_cons_self _ _).trans ((List.sublist_cons_self _ _).trans (List.sublist_cons_self _ _)))) | exact H.drop ((List.sublist_cons_self _ _).trans ((List.sublist_cons_self _ _).trans ((List.sublist_cons_self _ _).trans ((List.sublist_cons_self _ _).trans (List.sublist_cons_self _ _)))))) (fun w H => Ev.fieldAddr (fld_run rfl) rfl) ?_
    refine OPH.take 2 rfl rfl rfl rfl (by kernel_rfl) (by kernel_rfl) (by kernel_rfl) rfl (by first | exact H | exact H.drop (List.sublist_cons_self _ _) | exact H.drop ((List.sublist_cons_self _ _).trans (List.sublist_cons_self _ _)) | exact H.drop ((List.sublist_cons_self _ _).trans ((List.sublist_cons_self _ _).trans (List.sublist_cons_self _ _))) | exact H.drop ((List.sublist_cons_self _ _).trans ((List.sublist_cons_self _ _).trans ((List.sublist_cons_self _ _).trans (List.sublist_cons_self _ _)))) | exact H.drop ((List.sublist_cons_self _ _).trans ((List.sublist_cons_self _ _).trans ((List.sublist_cons_self _ _).trans ((List.sublist_cons_self _ _).trans (List.sublist_cons_self _ _)))))) (fun w H => Ev.load1 (agg_run rfl) rfl (by first | exact H.ldL 0 rfl _ rfl | exact H.ldL 1 rfl _ rfl | exact H.ldL 2 rfl _ rfl | exact H.ldL 3 rfl _ rfl | exact H.ldL 4 rfl _ rfl | exact H.ldL 5 rfl _ rfl | exact H.ldL 6 rfl _ rfl | exact H.ldL 7 rfl _ rfl | exact H.ld0 (by assumption) | assumption | exact H.ldS (by assumption) (by assumption))) ?_
    refine OPH.all [3, 4, 5] (by kernel_rfl) (by simp) rfl ?_
    intro i hi; simp only [List.mem_cons, List.not_mem_nil, or_false] at hi
    rcases hi with rfl | rfl | rfl
    · refine ⟨_, rfl, ?_⟩
      refine OPS.makeSliceB (m := n) rfl rfl rfl rfl (sl_run rfl) rfl rfl hn (by omega) (by omega) (by first | exact E | exact H) ?_
      clear H; (try clear E); intro g8 w hb8 E
      (try replace MO := MO.below hb8)
      (try replace MU := MU.below hb8)
      have H := E.drop (List.sublist_cons_self _ _)
      refine OPS.nil ?_
      refine ⟨(by first | exact H | exact H.drop (List.sublist_cons_self _ _) | exact H.drop ((List.sublist_cons_self _ _).trans (List.sublist_cons_self _ _)) | exact H.drop ((List.sublist_cons_self _ _).trans ((List.sublist_cons_self _ _).trans (List.sublist_cons_self _ _))) | exact H.drop ((List.sublist_cons_self _ _).trans ((List.sublist_cons_self _ _).trans ((List.sublist_cons_self _ _).trans (List.sublist_cons_self _ _)))) | exact H.drop ((List.sublist_cons_self _ _).trans ((List.sublist_cons_self _ _).trans ((List.sublist_cons_self _ _).trans ((List.sublist_cons_self _ _).trans (List.sublist_cons_self _ _)))))), ?_⟩
      refine OPH.all [4, 5] (by kernel_rfl) (by simp) rfl ?_
      intro i hi; simp only [List.mem_cons, List.not_mem_nil, or_false] at hi
      rcases hi with rfl | rfl
      · refine ⟨_, rfl, ?_⟩
        refine OPS.mkMapB 3 rfl rfl rfl rfl (by first | exact E | exact H) ?_
        have sw := H.size
        (try clear E); clear H; intro w gO eO hbO E MO
        (try have nOU : gO ≠ gU := fun he => by have := MU.lt; omega)
        have lO : w0.heap.size ≤ gO := by omega
        (try replace MU := MU.below hbO)
        have H := by first | exact E.drop (List.sublist_cons_self ⟨g8, _, _⟩ _) | exact E
        refine OPS.nil ?_
        refine ⟨(by first | exact H | exact H.drop (List.sublist_cons_self _ _) | exact H.drop ((List.sublist_cons_self _ _).trans (List.sublist_cons_self _ _)) | exact H.drop ((List.sublist_cons_self _ _).trans ((List.sublist_cons_self _ _).trans (List.sublist_cons_self _ _))) | exact H.drop ((List.sublist_cons_self _ _).trans ((List.sublist_cons_self _ _).trans ((List.sublist_cons_self _ _).trans (List.sublist_cons_self _ _)))) | exact H.drop ((List.sublist_cons_self _ _).trans ((List.sublist_cons_self _ _).trans ((List.sublist_cons_self _ _).trans ((List.sublist_cons_self _ _).trans (List.sublist_cons_self _ _)))))), ?_⟩
        refine OPH.all [5] (by kernel_rfl) (by simp) rfl ?_
        intro i hi; simp only [List.mem_cons, List.not_mem_nil, or_false] at hi
        rcases hi with rfl
        · refine ⟨_, rfl, ?_⟩
          refine OPS.mkMapB 3 rfl rfl rfl rfl (by first | exact E | exact H) ?_
          have sw := H.size
          (try clear E); clear H; intro w gU eU hbU E MU
          (try have nOU : gO ≠ gU := fun he => by have := MO.lt; omega)
          have lU : w0.heap.size ≤ gU := by omega
          (try replace MO := MO.below hbU)
          have H := by first | exact E.drop (List.sublist_cons_self ⟨g8, _, _⟩ _) | exact E
          refine OPS.nil ?_
          refine ⟨(by first | exact H | exact H.drop (List.sublist_cons_self _ _) | exact H.drop ((List.sublist_cons_self _ _).trans (List.sublist_cons_self _ _)) | exact H.drop ((List.sublist_cons_self _ _).trans ((List.sublist_cons_self _ _).trans (List.sublist_cons_self _ _))) | exact H.drop ((List.sublist_cons_self _ _).trans ((List.sublist_cons_self _ _).trans ((List.sublist_cons_self _ _).trans (List.sublist_cons_self _ _)))) | exact H.drop ((List.sublist_cons_self _ _).trans ((List.sublist_cons_self _ _).trans ((List.sublist_cons_self _ _).trans ((List.sublist_cons_self _ _).trans (List.sublist_cons_self _ _)))))), ?_⟩
          refine OPH.take 6 rfl rfl rfl rfl (by kernel_rfl) (by kernel_rfl) (by kernel_rfl) rfl (by first | exact H | exact H.drop (List.sublist_cons_self _ _) | exact H.drop ((List.sublist_cons_self _ _).trans (List.sublist_cons_self _ _)) | exact H.drop ((List.sublist_cons_self _ _).trans ((List.sublist_cons_self _ _).trans (List.sublist_cons_self _ _))) | exact H.drop ((List.sublist_cons_self _ _).trans ((List.sublist_cons_self _ _).trans ((List.sublist_cons_self _ _).trans (List.sublist_cons_self _ _)))) | exact H.drop ((List.sublist_cons_self _ _).trans ((List.sublist_cons_self _ _).trans ((List.sublist_cons_self _ _).trans ((List.sublist_cons_self _ _).trans (List.sublist_cons_self _ _)))))) (fun w H => Ev.build (bld_70_0_1_2_3 rfl rfl rfl rfl)) ?_
          refine OPH.all [7] (by kernel_rfl) (by simp) rfl ?_
          intro i hi; simp only [List.mem_cons, List.not_mem_nil, or_false] at hi
          rcases hi with rfl
          · refine ⟨_, rfl, ?_⟩
            refine OPS.boxB rfl rfl rfl rfl (cA rfl) E ?_
            clear H E; intro g12 w hb12 E
            replace MO := MO.below hb12
            replace MU := MU.below hb12
            have H := E.drop ((List.sublist_cons_self _ _).trans (List.sublist_cons_self _ _))
            refine OPS.nil ?_
            refine ⟨(by first | exact H | exact H.drop (List.sublist_cons_self _ _) | exact H.drop ((List.sublist_cons_self _ _).trans (List.sublist_cons_self _ _)) | exact H.drop ((List.sublist_cons_self _ _).trans ((List.sublist_cons_self _ _).trans (List.sublist_cons_self _ _))) | exact H.drop ((List.sublist_cons_self _ _).trans ((List.sublist_cons_self _ _).trans ((List.sublist_cons_self _ _).trans (List.sublist_cons_self _ _)))) | exact H.drop ((List.sublist_cons_self _ _).trans ((List.sublist_cons_self _ _).trans ((List.sublist_cons_self _ _).trans ((List.sublist_cons_self _ _).trans (List.sublist_cons_self _ _)))))), ?_⟩
            refine OPH.take 8 rfl rfl rfl rfl (by kernel_rfl) (by kernel_rfl) (by kernel_rfl) rfl (by first | exact H | exact H.drop (List.sublist_cons_self _ _) | exact H.drop ((List.sublist_cons_self _ _).trans (List.sublist_cons_self _ _)) | exact H.drop ((List.sublist_cons_self _ _).trans ((List.sublist_cons_self _ _).trans (List.sublist_cons_self _ _))) | exact H.drop ((List.sublist_cons_self _ _).trans ((List.sublist_cons_self _ _).trans ((List.sublist_cons_self _ _).trans (List.sublist_cons_self _ _)))) | exact H.drop ((List.sublist_cons_self _ _).trans ((List.sublist_cons_self _ _).trans ((List.sublist_cons_self _ _).trans ((List.sublist_cons_self _ _).trans (List.sublist_cons_self _ _)))))) (fun w H => Ev.asP rfl) ?_
            refine OPH.done (by kernel_rfl) ?_
            exact ⟨(by repeat (first | exact Agree.refl _ _ | exact Agree.mix _ _ _ | refine Agree.upd rfl ?_ | refine Agree.mix2 rfl ?_)), g12, g8, gO, gU, rfl, nOU, lO, lU, MO, MU, E.drop (List.Sublist.cons₂ _ (List.Sublist.cons₂ _ (List.nil_sublist _)))⟩
      · refine ⟨_, rfl, ?_⟩
        refine OPS.mkMapB 3 rfl rfl rfl rfl (by first | exact E | exact H) ?_
        have sw := H.size
        (try clear E); clear H; intro w gU eU hbU E MU
        (try have nOU : gO ≠ gU := fun he => by have := MO.lt; omega)
        have lU : w0.heap.size ≤ gU := by omega
        (try replace MO := MO.below hbU)
        have H := by first | exact E.drop (List.sublist_cons_self ⟨g8, _, _⟩ _) | exact E
        refine OPS.nil ?_
        refine ⟨(by first | exact H | exact H.drop (List.sublist_cons_self _ _) | exact H.drop ((List.sublist_cons_self _ _).trans (List.sublist_cons_self _ _)) | exact H.drop ((List.sublist_cons_self _ _).trans ((List.sublist_cons_self _ _).trans (List.sublist_cons_self _ _))) | exact H.drop ((List.sublist_cons_self _ _).trans ((List.sublist_cons_self _ _).trans ((List.sublist_cons_self _ _).trans (List.sublist_cons_self _ _)))) | exact H.drop ((List.sublist_cons_self _ _).trans ((List.sublist_cons_self _ _).trans ((List.sublist_cons_self _ _).trans ((List.sublist_cons_self _ _).trans (List.sublist_cons_self _ _)))))), ?_⟩
        refine OPH.all [4] (by kernel_rfl) (by simp) rfl ?_
        intro i hi; simp only [List.mem_cons, List.not_mem_nil, or_false] at hi
        rcases hi with rfl
        · refine ⟨_, rfl, ?_⟩
          refine OPS.mkMapB 3 rfl rfl rfl rfl (by first | exact E | exact H) ?_
          have sw := H.size
          (try clear E); clear H; intro w gO eO hbO E MO
          (try have nOU : gO ≠ gU := fun he => by have := MU.lt; omega)
          have lO : w0.heap.size ≤ gO := by omega
          (try replace MU := MU.below hbO)
          have H := by first | exact E.drop (List.sublist_cons_self ⟨g8, _, _⟩ _) | exact E
          refine OPS.nil ?_
          refine ⟨(by first | exact H | exact H.drop (List.sublist_cons_self _ _) | exact H.drop ((List.sublist_cons_self _ _).trans (List.sublist_cons_self _ _)) | exact H.drop ((List.sublist_cons_self _ _).trans ((List.sublist_cons_self _ _).trans (List.sublist_cons_self _ _))) | exact H.drop ((List.sublist_cons_self _ _).trans ((List.sublist_cons_self _ _).trans ((List.sublist_cons_self _ _).trans (List.sublist_cons_self _ _)))) | exact H.drop ((List.sublist_cons_self _ _).trans ((List.sublist_cons_self _ _).trans ((List.sublist_cons_self _ _).trans ((List.sublist_cons_self _ _).trans (List.sublist_cons_self _ _)))))), ?_⟩
          refine OPH.take 6 rfl rfl rfl rfl (by kernel_rfl) (by kernel_rfl) (by kernel_rfl) rfl (by first | exact H | exact H.drop (List.sublist_cons_self _ _) | exact H.drop ((List.sublist_cons_self _ _).trans (List.sublist_cons_self _ _)) | exact H.drop ((List.sublist_cons_self _ _).trans ((List.sublist_cons_self _ _).trans (List.sublist_cons_self _ _))) | exact H.drop ((List.sublist_cons_self _ _).trans ((List.sublist_cons_self _ _).trans ((List.sublist_cons_self _ _).trans (List.sublist_cons_self _ _)))) | exact H.drop ((List.sublist_cons_self _ _).trans ((List.sublist_cons_self _ _).trans ((List.sublist_cons_self _ _).trans ((List.sublist_cons_self _ _).trans (List.sublist_cons_self _ _)))))) (fun w H => Ev.build (bld_70_0_1_2_3 rfl rfl rfl rfl)) ?_
          refine OPH.all [7] (by kernel_rfl) (by simp) rfl ?_
          intro i hi; simp only [List.mem_cons, List.not_mem_nil, or_false] at hi
          rcases hi with rfl
          · refine ⟨_, rfl, ?_⟩
            refine OPS.boxB rfl rfl rfl rfl (cA rfl) E ?_
            clear H E; intro g12 w hb12 E
            replace MO := MO.below hb12
            replace MU := MU.below hb12
            have H := E.drop ((List.sublist_cons_self _ _).trans (List.sublist_cons_self _ _))
            refine OPS.nil ?_
            refine ⟨(by first | exact H | exact H.drop (List.sublist_cons_self _ _) | exact H.drop ((List.sublist_cons_self _ _).trans (List.sublist_cons_self _ _)) | exact H.drop ((List.sublist_cons_self _ _).trans ((List.sublist_cons_self _ _).trans (List.sublist_cons_self _ _))) | exact H.drop ((List.sublist_cons_self _ _).trans ((List.sublist_cons_self _ _).trans ((List.sublist_cons_self _ _).trans (List.sublist_cons_self _ _)))) | exact H.drop ((List.sublist_cons_self _ _).trans ((List.sublist_cons_self _ _).trans ((List.sublist_cons_self _ _).trans ((List.sublist_cons_self _ _).trans (List.sublist_cons_self _ _)))))), ?_⟩
            refine OPH.take 8 rfl rfl rfl rfl (by kernel_rfl) (by kernel_rfl) (by kernel_rfl) rfl (by first | exact H | exact H.drop (List.sublist_cons_self _ _) | exact H.drop ((List.sublist_cons_self _ _).trans (List.sublist_cons_self _ _)) | exact H.drop ((List.sublist_cons_self _ _).trans ((List.sublist_cons_self _ _).trans (List.sublist_cons_self _ _))) | exact H.drop ((List.sublist_cons_self _ _).trans ((List.sublist_cons_self _ _).trans ((List.sublist_cons_self _ _).trans (List.sublist_cons_self _ _)))) | exact H.drop ((List.sublist_cons_self _ _).trans ((List.sublist_cons_self _ _).trans ((List.sublist_cons_self _ _).trans ((List.sublist_cons_self _ _).trans (List.sublist_cons_self _ _)))))) (fun w H => Ev.asP rfl) ?_
            refine OPH.done (by kernel_rfl) ?_
            exact ⟨(by repeat (first | exact Agree.refl _ _ | exact Agree.mix _ _ _ | refine Agree.upd rfl ?_ | refine Agree.mix2 rfl ?_)), g12, g8, gO, gU, rfl, nOU, lO, lU, MO, MU, E.drop (List.Sublist.cons₂ _ (List.Sublist.cons₂ _ (List.nil_sublist _)))⟩
    · refine ⟨_, rfl, ?_⟩
      refine OPS.mkMapB 3 rfl rfl rfl rfl (by first | exact E | exact H) ?_
      have sw := H.size
      (try clear E); clear H; intro w gO eO hbO E MO
      (try have nOU : gO ≠ gU := fun he => by have := MU.lt; omega)
      have lO : w0.heap.size ≤ gO := by omega
      (try replace MU := MU.below hbO)
      have H := by first | exact E.drop (List.sublist_cons_self ⟨g8, _, _⟩ _) | exact E
      refine OPS.nil ?_
      refine ⟨(by first | exact H | exact H.drop (List.sublist_cons_self _ _) | exact H.drop ((List.sublist_cons_self _ _).trans (List.sublist_cons_self _ _)) | exact H.drop ((List.sublist_cons_self _ _).trans ((List.sublist_cons_self _ _).trans (List.sublist_cons_self _ _))) | exact H.drop ((List.sublist_cons_self _ _).trans ((List.sublist_cons_self _ _).trans ((List.sublist_cons_self _ _).trans (List.sublist_cons_self _ _)))) | exact H.drop ((List.sublist_cons_self _ _).trans ((List.sublist_cons_self _ _).trans ((List.sublist_cons_self _ _).trans ((List.sublist_cons_self _ _).trans (List.sublist_cons_self _ _)))))), ?_⟩
      refine OPH.all [3, 5] (by kernel_rfl) (by simp) rfl ?_
      intro i hi; simp only [List.mem_cons, List.not_mem_nil, or_false] at hi
      rcases hi with rfl | rfl
      · refine ⟨_, rfl, ?_⟩
        refine OPS.makeSliceB (m := n) rfl rfl rfl rfl (sl_run rfl) rfl rfl hn (by omega) (by omega) (by first | exact E | exact H) ?_
        clear H; (try clear E); intro g8 w hb8 E
        (try replace MO := MO.below hb8)
        (try replace MU := MU.below hb8)
        have H := E.drop (List.sublist_cons_self _ _)
        refine OPS.nil ?_
        refine ⟨(by first | exact H | exact H.drop (List.sublist_cons_self _ _) | exact H.drop ((List.sublist_cons_self _ _).trans (List.sublist_cons_self _ _)) | exact H.drop ((List.sublist_cons_self _ _).trans ((List.sublist_cons_self _ _).trans (List.sublist_cons_self _ _))) | exact H.drop ((List.sublist_cons_self _ _).trans ((List.sublist_cons_self _ _).trans ((List.sublist_cons_self _ _).trans (List.sublist_cons_self _ _)))) | exact H.drop ((List.sublist_cons_self _ _).trans ((List.sublist_cons_self _ _).trans ((List.sublist_cons_self _ _).trans ((List.sublist_cons_self _ _).trans (List.sublist_cons_self _ _)))))), ?_⟩
        refine OPH.all [5] (by kernel_rfl) (by simp) rfl ?_
        intro i hi; simp only [List.mem_cons, List.not_mem_nil, or_false] at hi
        rcases hi with rfl
        · refine ⟨_, rfl, ?_⟩
          refine OPS.mkMapB 3 rfl rfl rfl rfl (by first | exact E | exact H) ?_
          have sw := H.size
          (try clear E); clear H; intro w gU eU hbU E MU
          (try have nOU : gO ≠ gU := fun he => by have := MO.lt; omega)
          have lU : w0.heap.size ≤ gU := by omega
          (try replace MO := MO.below hbU)
          have H := by first | exact E.drop (List.sublist_cons_self ⟨g8, _, _⟩ _) | exact E
          refine OPS.nil ?_
          refine ⟨(by first | exact H | exact H.drop (List.sublist_cons_self _ _) | exact H.drop ((List.sublist_cons_self _ _).trans (List.sublist_cons_self _ _)) | exact H.drop ((List.sublist_cons_self _ _).trans ((List.sublist_cons_self _ _).trans (List.sublist_cons_self _ _))) | exact H.drop ((List.sublist_cons_self _ _).trans ((List.sublist_cons_self _ _).trans ((List.sublist_cons_self _ _).trans (List.sublist_cons_self _ _)))) | exact H.drop ((List.sublist_cons_self _ _).trans ((List.sublist_cons_self _ _).trans ((List.sublist_cons_self _ _).trans ((List.sublist_cons_self _ _).trans (List.sublist_cons_self _ _)))))), ?_⟩
          refine OPH.take 6 rfl rfl rfl rfl (by kernel_rfl) (by kernel_rfl) (by kernel_rfl) rfl (by first | exact H | exact H.drop (List.sublist_cons_self _ _) | exact H.drop ((List.sublist_cons_self _ _).trans (List.sublist_cons_self _ _)) | exact H.drop ((List.sublist_cons_self _ _).trans ((List.sublist_cons_self _ _).trans (List.sublist_cons_self _ _))) | exact H.drop ((List.sublist_cons_self _ _).trans ((List.sublist_cons_self _ _).trans ((List.sublist_cons_self _ _).trans (List.sublist_cons_self _ _)))) | exact H.drop ((List.sublist_cons_self _ _).trans ((List.sublist_cons_self _ _).trans ((List.sublist_cons_self _ _).trans ((List.sublist_cons_self _ _).trans (List.sublist_cons_self _ _)))))) (fun w H => Ev.build (bld_70_0_1_2_3 rfl rfl rfl rfl)) ?_
          refine OPH.all [7] (by kernel_rfl) (by simp) rfl ?_
          intro i hi; simp only [List.mem_cons, List.not_mem_nil, or_false] at hi
          rcases hi with rfl
          · refine ⟨_, rfl, ?_⟩
            refine OPS.boxB rfl rfl rfl rfl (cA rfl) E ?_
            clear H E; intro g12 w hb12 E
            replace MO := MO.below hb12
            replace MU := MU.below hb12
            have H := E.drop ((List.sublist_cons_self _ _).trans (List.sublist_cons_self _ _))
            refine OPS.nil ?_
            refine ⟨(by first | exact H | exact H.drop (List.sublist_cons_self _ _) | exact H.drop ((List.sublist_cons_self _ _).trans (List.sublist_cons_self _ _)) | exact H.drop ((List.sublist_cons_self _ _).trans ((List.sublist_cons_self _ _).trans (List.sublist_cons_self _ _))) | exact H.drop ((List.sublist_cons_self _ _).trans ((List.sublist_cons_self _ _).trans ((List.sublist_cons_self _ _).trans (List.sublist_cons_self _ _)))) | exact H.drop ((List.sublist_cons_self _ _).trans ((List.sublist_cons_self _ _).trans ((List.sublist_cons_self _ _).trans ((List.sublist_cons_self _ _).trans (List.sublist_cons_self _ _)))))), ?_⟩
            refine OPH.take 8 rfl rfl rfl rfl (by kernel_rfl) (by kernel_rfl) (by kernel_rfl) rfl (by first | exact H | exact H.drop (List.sublist_cons_self _ _) | exact H.drop ((List.sublist_cons_self _ _).trans (List.sublist_cons_self _ _)) | exact H.drop ((List.sublist_cons_self _ _).trans ((List.sublist_cons_self _ _).trans (List.sublist_cons_self _ _))) | exact H.drop ((List.sublist_cons_self _ _).trans ((List.sublist_cons_self _ _).trans ((List.sublist_cons_self _ _).trans (List.sublist_cons_self _ _)))) | exact H.drop ((List.sublist_cons_self _ _).trans ((List.sublist_cons_self _ _).trans ((List.sublist_cons_self _ _).trans ((List.sublist_cons_self _ _).trans (List.sublist_cons_self _ _)))))) (fun w H => Ev.asP rfl) ?_
            refine OPH.done (by kernel_rfl) ?_
            exact ⟨(by repeat (first | exact Agree.refl _ _ | exact Agree.mix _ _ _ | refine Agree.upd rfl ?_ | refine Agree.mix2 rfl ?_)), g12, g8, gO, gU, rfl, nOU, lO, lU, MO, MU, E.drop (List.Sublist.cons₂ _ (List.Sublist.cons₂ _ (List.nil_sublist _)))⟩
      · refine ⟨_, rfl, ?_⟩
        refine OPS.mkMapB 3 rfl rfl rfl rfl (by first | exact E | exact H) ?_
        have sw := H.size
        (try clear E); clear H; intro w gU eU hbU E MU
        (try have nOU : gO ≠ gU := fun he => by have := MO.lt; omega)
        have lU : w0.heap.size ≤ gU := by omega
        (try replace MO := MO.below hbU)
        have H := by first | exact E.drop (List.sublist_cons_self ⟨g8, _, _⟩ _) | exact E
        refine OPS.nil ?_
        refine ⟨(by first | exact H | exact H.drop (List.sublist_cons_self _ _) | exact H.drop ((List.sublist_cons_self _ _).trans (List.sublist_cons_self _ _)) | exact H.drop ((List.sublist_cons_self _ _).trans ((List.sublist_cons_self _ _).trans (List.sublist_cons_self _ _))) | exact H.drop ((List.sublist_cons_self _ _).trans ((List.sublist_cons_self _ _).trans ((List.sublist_cons_self _ _).trans (List.sublist_cons_self _ _)))) | exact H.drop ((List.sublist_cons_self _ _).trans ((List.sublist_cons_self _ _).trans ((List.sublist_cons_self _ _).trans ((List.sublist_cons_self _ _).trans (List.sublist_cons_self _ _)))))), ?_⟩
        refine OPH.all [3] (by kernel_rfl) (by simp) rfl ?_
        intro i hi; simp only [List.mem_cons, List.not_mem_nil, or_false] at hi
        rcases hi with rfl
        · refine ⟨_, rfl, ?_⟩
          refine OPS.makeSliceB (m := n) rfl rfl rfl rfl (sl_run rfl) rfl rfl hn (by omega) (by omega) (by first | exact E | exact H) ?_
          clear H; (try clear E); intro g8 w hb8 E
          (try replace MO := MO.below hb8)
          (try replace MU := MU.below hb8)
          have H := E.drop (List.sublist_cons_self _ _)
          refine OPS.nil ?_
          refine ⟨(by first | exact H | exact H.drop (List.sublist_cons_self _ _) | exact H.drop ((List.sublist_cons_self _ _).trans (List.sublist_cons_self _ _)) | exact H.drop ((List.sublist_cons_self _ _).trans ((List.sublist_cons_self _ _).trans (List.sublist_cons_self _ _))) | exact H.drop ((List.sublist_cons_self _ _).trans ((List.sublist_cons_self _ _).trans ((List.sublist_cons_self _ _).trans (List.sublist_cons_self _ _)))) | exact H.drop ((List.sublist_cons_self _ _).trans ((List.sublist_cons_self _ _).trans ((List.sublist_cons_self _ _).trans ((List.sublist_cons_self _ _).trans (List.sublist_cons_self _ _)))))), ?_⟩
          refine OPH.take 6 rfl rfl rfl rfl (by kernel_rfl) (by kernel_rfl) (by kernel_rfl) rfl (by first | exact H | exact H.drop (List.sublist_cons_self _ _) | exact H.drop ((List.sublist_cons_self _ _).trans (List.sublist_cons_self _ _)) | exact H.drop ((List.sublist_cons_self _ _).trans ((List.sublist_cons_self _ _).trans (List.sublist_cons_self _ _))) | exact H.drop ((List.sublist_cons_self _ _).trans ((List.sublist_cons_self _ _).trans ((List.sublist_cons_self _ _).trans (List.sublist_cons_self _ _)))) | exact H.drop ((List.sublist_cons_self _ _).trans ((List.sublist_cons_self _ _).trans ((List.sublist_cons_self _ _).trans ((List.sublist_cons_self _ _).trans (List.sublist_cons_self _ _)))))) (fun w H => Ev.build (bld_70_0_1_2_3 rfl rfl rfl rfl)) ?_
          refine OPH.all [7] (by kernel_rfl) (by simp) rfl ?_
          intro i hi; simp only [List.mem_cons, List.not_mem_nil, or_false] at hi
          rcases hi with rfl
          · refine ⟨_, rfl, ?_⟩
            refine OPS.boxB rfl rfl rfl rfl (cA rfl) E ?_
            clear H E; intro g12 w hb12 E
            replace MO := MO.below hb12
            replace MU := MU.below hb12
            have H := E.drop ((List.sublist_cons_self _ _).trans (List.sublist_cons_self _ _))
            refine OPS.nil ?_
            refine ⟨(by first | exact H | exact H.drop (List.sublist_cons_self _ _) | exact H.drop ((List.sublist_cons_self _ _).trans (List.sublist_cons_self _ _)) | exact H.drop ((List.sublist_cons_self _ _).trans ((List.sublist_cons_self _ _).trans (List.sublist_cons_self _ _))) | exact H.drop ((List.sublist_cons_self _ _).trans ((List.sublist_cons_self _ _).trans ((List.sublist_cons_self _ _).trans (List.sublist_cons_self _ _)))) | exact H.drop ((List.sublist_cons_self _ _).trans ((List.sublist_cons_self _ _).trans ((List.sublist_cons_self _ _).trans ((List.sublist_cons_self _ _).trans (List.sublist_cons_self _ _)))))), ?_⟩
            refine OPH.take 8 rfl rfl rfl rfl (by kernel_rfl) (by kernel_rfl) (by kernel_rfl) rfl (by first | exact H | exact H.drop (List.sublist_cons_self _ _) | exact H.drop ((List.sublist_cons_self _ _).trans (List.sublist_cons_self _ _)) | exact H.drop ((List.sublist_cons_self _ _).trans ((List.sublist_cons_self _ _).trans (List.sublist_cons_self _ _))) | exact H.drop ((List.sublist_cons_self _ _).trans ((List.sublist_cons_self _ _).trans ((List.sublist_cons_self _ _).trans (List.sublist_cons_self _ _)))) | exact H.drop ((List.sublist_cons_self _ _).trans ((List.sublist_cons_self _ _).trans ((List.sublist_cons_self _ _).trans ((List.sublist_cons_self _ _).trans (List.sublist_cons_self _ _)))))) (fun w H => Ev.asP rfl) ?_
            refine OPH.done (by kernel_rfl) ?_
            exact ⟨(by repeat (first | exact Agree.refl _ _ | exact Agree.mix _ _ _ | refine Agree.upd rfl ?_ | refine Agree.mix2 rfl ?_)), g12, g8, gO, gU, rfl, nOU, lO, lU, MO, MU, E.drop (List.Sublist.cons₂ _ (List.Sublist.cons₂ _ (List.nil_sublist _)))⟩
    · refine ⟨_, rfl, ?_⟩
      refine OPS.mkMapB 3 rfl rfl rfl rfl (by first | exact E | exact H) ?_
      have sw := H.size
      (try clear E); clear H; intro w gU eU hbU E MU
      (try have nOU : gO ≠ gU := fun he => by have := MO.lt; omega)
      have lU : w0.heap.size ≤ gU := by omega
      (try replace MO := MO.below hbU)
      have H := by first | exact E.drop (List.sublist_cons_self ⟨g8, _, _⟩ _) | exact E
      refine OPS.nil ?_
      refine ⟨(by first | exact H | exact H.drop (List.sublist_cons_self _ _) | exact H.drop ((List.sublist_cons_self _ _).trans (List.sublist_cons_self _ _)) | exact H.drop ((List.sublist_cons_self _ _).trans ((List.sublist_cons_self _ _).trans (List.sublist_cons_self _ _))) | exact H.drop ((List.sublist_cons_self _ _).trans ((List.sublist_cons_self _ _).trans ((List.sublist_cons_self _ _).trans (List.sublist_cons_self _ _)))) | exact H.drop ((List.sublist_cons_self _ _).trans ((List.sublist_cons_self _ _).trans ((List.sublist_cons_self _ _).trans ((List.sublist_cons_self _ _).trans (List.sublist_cons_self _ _)))))), ?_⟩
      refine OPH.all [3, 4] (by kernel_rfl) (by simp) rfl ?_
      intro i hi; simp only [List.mem_cons, List.not_mem_nil, or_false] at hi
      rcases hi with rfl | rfl
      · refine ⟨_, rfl, ?_⟩
        refine OPS.makeSliceB (m := n) rfl rfl rfl rfl (sl_run rfl) rfl rfl hn (by omega) (by omega) (by first | exact E | exact H) ?_
        clear H; (try clear E); intro g8 w hb8 E
        (try replace MO := MO.below hb8)
        (try replace MU := MU.below hb8)
        have H := E.drop (List.sublist_cons_self _ _)
        refine OPS.nil ?_
        refine ⟨(by first | exact H | exact H.drop (List.sublist_cons_self _ _) | exact H.drop ((List.sublist_cons_self _ _).trans (List.sublist_cons_self _ _)) | exact H.drop ((List.sublist_cons_self _ _).trans ((List.sublist_cons_self _ _).trans (List.sublist_cons_self _ _))) | exact H.drop ((List.sublist_cons_self _ _).trans ((List.sublist_cons_self _ _).trans ((List.sublist_cons_self _ _).trans (List.sublist_cons_self _ _)))) | exact H.drop ((List.sublist_cons_self _ _).trans ((List.sublist_cons_self _ _).trans ((List.sublist_cons_self _ _).trans ((List.sublist_cons_self _ _).trans (List.sublist_cons_self _ _)))))), ?_⟩
        refine OPH.all [4] (by kernel_rfl) (by simp) rfl ?_
        intro i hi; simp only [List.mem_cons, List.not_mem_nil, or_false] at hi
        rcases hi with rfl
        · refine ⟨_, rfl, ?_⟩
          refine OPS.mkMapB 3 rfl rfl rfl rfl (by first | exact E | exact H) ?_
          have sw := H.size
          (try clear E); clear H; intro w gO eO hbO E MO
          (try have nOU : gO ≠ gU := fun he => by have := MU.lt; omega)
          have lO : w0.heap.size ≤ gO := by omega
          (try replace MU := MU.below hbO)
          have H := by first | exact E.drop (List.sublist_cons_self ⟨g8, _, _⟩ _) | exact E
          refine OPS.nil ?_
          refine ⟨(by first | exact H | exact H.drop (List.sublist_cons_self _ _) | exact H.drop ((List.sublist_cons_self _ _).trans (List.sublist_cons_self _ _)) | exact H.drop ((List.sublist_cons_self _ _).trans ((List.sublist_cons_self _ _).trans (List.sublist_cons_self _ _))) | exact H.drop ((List.sublist_cons_self _ _).trans ((List.sublist_cons_self _ _).trans ((List.sublist_cons_self _ _).trans (List.sublist_cons_self _ _)))) | exact H.drop ((List.sublist_cons_self _ _).trans ((List.sublist_cons_self _ _).trans ((List.sublist_cons_self _ _).trans ((List.sublist_cons_self _ _).trans (List.sublist_cons_self _ _)))))), ?_⟩
          refine OPH.take 6 rfl rfl rfl rfl (by kernel_rfl) (by kernel_rfl) (by kernel_rfl) rfl (by first | exact H | exact H.drop (List.sublist_cons_self _ _) | exact H.drop ((List.sublist_cons_self _ _).trans (List.sublist_cons_self _ _)) | exact H.drop ((List.sublist_cons_self _ _).trans ((List.sublist_cons_self _ _).trans (List.sublist_cons_self _ _))) | exact H.drop ((List.sublist_cons_self _ _).trans ((List.sublist_cons_self _ _).trans ((List.sublist_cons_self _ _).trans (List.sublist_cons_self _ _)))) | exact H.drop ((List.sublist_cons_self _ _).trans ((List.sublist_cons_self _ _).trans ((List.sublist_cons_self _ _).trans ((List.sublist_cons_self _ _).trans (List.sublist_cons_self _ _)))))) (fun w H => Ev.build (bld_70_0_1_2_3 rfl rfl rfl rfl)) ?_
          refine OPH.all [7] (by kernel_rfl) (by simp) rfl ?_
          intro i hi; simp only [List.mem_cons, List.not_mem_nil, or_false] at hi
          rcases hi with rfl
          · refine ⟨_, rfl, ?_⟩
            refine OPS.boxB rfl rfl rfl rfl (cA rfl) E ?_
            clear H E; intro g12 w hb12 E
            replace MO := MO.below hb12
            replace MU := MU.below hb12
            have H := E.drop ((List.sublist_cons_self _ _).trans (List.sublist_cons_self _ _))
            refine OPS.nil ?_
            refine ⟨(by first | exact H | exact H.drop (List.sublist_cons_self _ _) | exact H.drop ((List.sublist_cons_self _ _).trans (List.sublist_cons_self _ _)) | exact H.drop ((List.sublist_cons_self _ _).trans ((List.sublist_cons_self _ _).trans (List.sublist_cons_self _ _))) | exact H.drop ((List.sublist_cons_self _ _).trans ((List.sublist_cons_self _ _).trans ((List.sublist_cons_self _ _).trans (List.sublist_cons_self _ _)))) | exact H.drop ((List.sublist_cons_self _ _).trans ((List.sublist_cons_self _ _).trans ((List.sublist_cons_self _ _).trans ((List.sublist_cons_self _ _).trans (List.sublist_cons_self _ _)))))), ?_⟩
            refine OPH.take 8 rfl rfl rfl rfl (by kernel_rfl) (by kernel_rfl) (by kernel_rfl) rfl (by first | exact H | exact H.drop (List.sublist_cons_self _ _) | exact H.drop ((List.sublist_cons_self _ _).trans (List.sublist_cons_self _ _)) | exact H.drop ((List.sublist_cons_self _ _).trans ((List.sublist_cons_self _ _).trans (List.sublist_cons_self _ _))) | exact H.drop ((List.sublist_cons_self _ _).trans ((List.sublist_cons_self _ _).trans ((List.sublist_cons_self _ _).trans (List.sublist_cons_self _ _)))) | exact H.drop ((List.sublist_cons_self _ _).trans ((List.sublist_cons_self _ _).trans ((List.sublist_cons_self _ _).trans ((List.sublist_cons_self _ _).trans (List.sublist_cons_self _ _)))))) (fun w H => Ev.asP rfl) ?_
            refine OPH.done (by kernel_rfl) ?_
            exact ⟨(by repeat (first | exact Agree.refl _ _ | exact Agree.mix _ _ _ | refine Agree.upd rfl ?_ | refine Agree.mix2 rfl ?_)), g12, g8, gO, gU, rfl, nOU, lO, lU, MO, MU, E.drop (List.Sublist.cons₂ _ (List.Sublist.cons₂ _ (List.nil_sublist _)))⟩
      · refine ⟨_, rfl, ?_⟩
        refine OPS.mkMapB 3 rfl rfl rfl rfl (by first | exact E | exact H) ?_
        have sw := H.size
        (try clear E); clear H; intro w gO eO hbO E MO
        (try have nOU : gO ≠ gU := fun he => by have := MU.lt; omega)
        have lO : w0.heap.size ≤ gO := by omega
        (try replace MU := MU.below hbO)
        have H := by first | exact E.drop (List.sublist_cons_self ⟨g8, _, _⟩ _) | exact E
        refine OPS.nil ?_
        refine ⟨(by first | exact H | exact H.drop (List.sublist_cons_self _ _) | exact H.drop ((List.sublist_cons_self _ _).trans (List.sublist_cons_self _ _)) | exact H.drop ((List.sublist_cons_self _ _).trans ((List.sublist_cons_self _ _).trans (List.sublist_cons_self _ _))) | exact H.drop ((List.sublist_cons_self _ _).trans ((List.sublist_cons_self _ _).trans ((List.sublist_cons_self _ _).trans (List.sublist_cons_self _ _)))) | exact H.drop ((List.sublist_cons_self _ _).trans ((List.sublist_cons_self _ _).trans ((List.sublist_cons_self _ _).trans ((List.sublist_cons_self _ _).trans (List.sublist_cons_self _ _)))))), ?_⟩
        refine OPH.all [3] (by kernel_rfl) (by simp) rfl ?_
        intro i hi; simp only [List.mem_cons, List.not_mem_nil, or_false] at hi
        rcases hi with rfl
        · refine ⟨_, rfl, ?_⟩
          refine OPS.makeSliceB (m := n) rfl rfl rfl rfl (sl_run rfl) rfl rfl hn (by omega) (by omega) (by first | exact E | exact H) ?_
          clear H; (try clear E); intro g8 w hb8 E
          (try replace MO := MO.below hb8)
          (try replace MU := MU.below hb8)
          have H := E.drop (List.sublist_cons_self _ _)
          refine OPS.nil ?_
          refine ⟨(by first | exact H | exact H.drop (List.sublist_cons_self _ _) | exact H.drop ((List.sublist_cons_self _ _).trans (List.sublist_cons_self _ _)) | exact H.drop ((List.sublist_cons_self _ _).trans ((List.sublist_cons_self _ _).trans (List.sublist_cons_self _ _))) | exact H.drop ((List.sublist_cons_self _ _).trans ((List.sublist_cons_self _ _).trans ((List.sublist_cons_self _ _).trans (List.sublist_cons_self _ _)))) | exact H.drop ((List.sublist_cons_self _ _).trans ((List.sublist_cons_self _ _).trans ((List.sublist_cons_self _ _).trans ((List.sublist_cons_self _ _).trans (List.sublist_cons_self _ _)))))), ?_⟩
          refine OPH.take 6 rfl rfl rfl rfl (by kernel_rfl) (by kernel_rfl) (by kernel_rfl) rfl (by first | exact H | exact H.drop (List.sublist_cons_self _ _) | exact H.drop ((List.sublist_cons_self _ _).trans (List.sublist_cons_self _ _)) | exact H.drop ((List.sublist_cons_self _ _).trans ((List.sublist_cons_self _ _).trans (List.sublist_cons_self _ _))) | exact H.drop ((List.sublist_cons_self _ _).trans ((List.sublist_cons_self _ _).trans ((List.sublist_cons_self _ _).trans (List.sublist_cons_self _ _)))) | exact H.drop ((List.sublist_cons_self _ _).trans ((List.sublist_cons_self _ _).trans ((List.sublist_cons_self _ _).trans ((List.sublist_cons_self _ _).trans (List.sublist_cons_self _ _)))))) (fun w H => Ev.build (bld_70_0_1_2_3 rfl rfl rfl rfl)) ?_
          refine OPH.all [7] (by kernel_rfl) (by simp) rfl ?_
          intro i hi; simp only [List.mem_cons, List.not_mem_nil, or_false] at hi
          rcases hi with rfl
          · refine ⟨_, rfl, ?_⟩
            refine OPS.boxB rfl rfl rfl rfl (cA rfl) E ?_
            clear H E; intro g12 w hb12 E
            replace MO := MO.below hb12
            replace MU := MU.below hb12
            have H := E.drop ((List.sublist_cons_self _ _).trans (List.sublist_cons_self _ _))
            refine OPS.nil ?_
            refine ⟨(by first | exact H | exact H.drop (List.sublist_cons_self _ _) | exact H.drop ((List.sublist_cons_self _ _).trans (List.sublist_cons_self _ _)) | exact H.drop ((List.sublist_cons_self _ _).trans ((List.sublist_cons_self _ _).trans (List.sublist_cons_self _ _))) | exact H.drop ((List.sublist_cons_self _ _).trans ((List.sublist_cons_self _ _).trans ((List.sublist_cons_self _ _).trans (List.sublist_cons_self _ _)))) | exact H.drop ((List.sublist_cons_self _ _).trans ((List.sublist_cons_self _ _).trans ((List.sublist_cons_self _ _).trans ((List.sublist_cons_self _ _).trans (List.sublist_cons_self _ _)))))), ?_⟩
            refine OPH.take 8 rfl rfl rfl rfl (by kernel_rfl) (by kernel_rfl) (by kernel_rfl) rfl (by first | exact H | exact H.drop (List.sublist_cons_self _ _) | exact H.drop ((List.sublist_cons_self _ _).trans (List.sublist_cons_self _ _)) | exact H.drop ((List.sublist_cons_self _ _).trans ((List.sublist_cons_self _ _).trans (List.sublist_cons_self _ _))) | exact H.drop ((List.sublist_cons_self _ _).trans ((List.sublist_cons_self _ _).trans ((List.sublist_cons_self _ _).trans (List.sublist_cons_self _ _)))) | exact H.drop ((List.sublist_cons_self _ _).trans ((List.sublist_cons_self _ _).trans ((List.sublist_cons_self _ _).trans ((List.sublist_cons_self _ _).trans (List.sublist_cons_self _ _)))))) (fun w H => Ev.asP rfl) ?_
            refine OPH.done (by kernel_rfl) ?_
            exact ⟨(by repeat (first | exact Agree.refl _ _ | exact Agree.mix _ _ _ | refine Agree.upd rfl ?_ | refine Agree.mix2 rfl ?_)), g12, g8, gO, gU, rfl, nOU, lO, lU, MO, MU, E.drop (List.Sublist.cons₂ _ (List.Sublist.cons₂ _ (List.nil_sublist _)))⟩
  clear H
  rintro u w ⟨gS, gP, gO, gU, h3, nOU, lO, lU, MO, MU, H⟩
  refine WP.know (t := 3) h3 ?_
  refine WP.seq ?_
  refine WP.seq ?_
  refine WP.region ?_
  refine OPS.val rfl rfl rfl (Ev.mvP rfl) ?_
  refine OPS.val rfl rfl rfl ((by first | exact Ev.nilCheckP rfl | exact Ev.nilCheckF rfl)) ?_
  refine OPS.val rfl rfl rfl (Ev.fieldAddr (fld_run rfl) rfl) ?_
  refine OPS.val rfl rfl rfl (Ev.load1 (agg_run rfl) rfl (by first | exact H.ldL 0 rfl _ rfl | exact H.ldL 1 rfl _ rfl | exact H.ldL 2 rfl _ rfl | exact H.ldL 3 rfl _ rfl | exact H.ldL 4 rfl _ rfl | exact H.ldL 5 rfl _ rfl | exact H.ldL 6 rfl _ rfl | exact H.ldL 7 rfl _ rfl | exact H.ld0 (by assumption) | assumption | exact H.ldS (by assumption) (by assumption))) ?_
  refine OPS.val rfl rfl rfl (Ev.len (el_run rfl) rfl) ?_
  refine OPS.val rfl rfl rfl (Ev.mvI rfl) ?_
  refine OPS.nil ?_
  refine WP.block ?_
  refine WP.loop [4, 18, 19, 20, 21, 22, 23, 24, 25, 26, 27, 28] (fun k e w' => ∃ (j : Nat), j + k = n ∧ e 18 = I j ∧ MapAt Try.prog 3 w' gO [] ∧ MapAt Try.prog 3 w' gU [] ∧ SH w0 [] w' [⟨gS, 70, flC f A ca B cb ++ [.slice (some ⟨gP, 0, none⟩) n n, .map (some gO), .map (some gU)]⟩, ⟨gP, 42, (shops n j).flatMap spC⟩]) (n) (⟨0, by omega, rfl, MO, MU, by have := H; rw [show mkL n [I 0, I 0, I 0, .bool false] = (shops n 0).flatMap spC from by rw [show [I 0, I 0, I 0, Value.bool false] = spC none0 from rfl, mkL_rows]; rfl] at this; exact this⟩) ?_
  clear H MO MU
  rintro k u w ⟨j, hk, h18, MO, MU, H⟩
  refine WP.know (t := 18) h18 ?_
  refine WP.seq ?_
  refine WP.region ?_
  refine OPS.val rfl rfl rfl (Ev.lss rfl rfl) ?_
  refine OPS.nil ?_
  refine WP.seq ?_
  refine WP.cond rfl (fun hc3 => ?_) (fun hc3 => ?_)
  · have hlt : j < n := by simpa using hc3
    have hjl : j < (shops n j).length := by rw [shops_len (by omega)]; exact hlt
    refine WP.skip ?_
    refine WP.seq ?_
    refine WP.block ?_
    refine WP.seq ?_
    refine WP.region ?_
    refine OPS.val rfl rfl rfl (Ev.mvI rfl) ?_
    refine OPS.val rfl rfl rfl (Ev.asI rfl) ?_
    refine OPS.nil ?_
    have HB := H
    have nO := MO.notMem H
    have nU := MU.notMem H
    have MO1 := MO
    have MU1 := MU
    have hfit : 0 + j * 4 + 0 + [I 5].length ≤ ((shops n j).flatMap spC).length := by
      rw [rows_length (sz := 4) (fun _ => rfl), shops_len (by omega)]; simp; omega
    replace H := H.restart (List.Sublist.refl _)
    refine WP.region ?_
    refine OPS.val rfl rfl rfl (Ev.mvP rfl) ?_
    refine OPS.val rfl rfl rfl ((by first | exact Ev.nilCheckP rfl | exact Ev.nilCheckF rfl)) ?_
    refine OPS.val rfl rfl rfl (Ev.fieldAddr (fld_run rfl) rfl) ?_
    refine OPS.val rfl rfl rfl (Ev.load1 (agg_run rfl) rfl (H.ldL 0 rfl _ rfl)) ?_
    refine OPS.val rfl rfl rfl (Ev.mvI rfl) ?_
    refine OPS.val rfl rfl rfl ((by first | exact Ev.indexAddr1 (el_run rfl) (size_run rfl) rfl rfl rfl (by omega) | exact Ev.indexAddr (el_run rfl) (size_run rfl) rfl rfl rfl (by omega))) ?_
    refine OPS.val rfl rfl rfl (Ev.fieldAddr (fld_run rfl) rfl) ?_
    refine OPS.store 1 (0 + j * 4 + 0) rfl rfl rfl (size_run rfl) rfl (cI rfl) rfl rfl H rfl hfit ?_
    clear H; intro w H
    have H : SH _ [gS, gP] w [⟨gS, 70, flC f A ca B cb ++ [.slice (some ⟨gP, 0, none⟩) n n, .map (some gO), .map (some gU)]⟩, ⟨gP, 42, putL ((shops n j).flatMap spC) (0 + j * 4 + 0) [I 5]⟩] := H
    rw [Nat.zero_add, Nat.add_zero, set_wh _ _ hjl, shops_succ hlt] at H
    have MO := MO1.sh H nO
    have MU := MU1.sh H nU
    replace H := SH.cont HB H
    refine OPS.nil ?_
    refine WP.region ?_
    refine OPS.val rfl rfl rfl (Ev.add rfl rfl (by unfold fits; omega)) ?_
    refine OPS.val rfl rfl rfl (Ev.mvI rfl) ?_
    refine OPS.nil ?_
    exact ⟨(by repeat (first | exact Agree.refl _ _ | exact Agree.mix _ _ _ | refine Agree.upd rfl ?_ | refine Agree.mix2 rfl ?_)), k - 1, by omega, j + 1, by omega, rfl, MO, MU, H⟩
  refine WP.exit ?_
  refine XB.hit ?_
  refine WP.seq ?_
  refine WP.region ?_
  refine OPS.val rfl rfl rfl (Ev.mvP rfl) ?_
  refine OPS.val rfl rfl rfl (Ev.asP rfl) ?_
  refine OPS.nil ?_
  refine WP.ret ⟨_, rfl, ?_⟩
  have hj : j = n := by simp at hc3; omega
  subst hj
  refine ⟨gS, gP, gO, gU, rfl, nOU, lO, lU, MO, MU, ?_⟩
  have : shops j j = List.replicate j shop := by simp [shops]
  rw [← this]; exact H
end Go.Proofs.Ytchjbjplddhknaa

/-
  The run of events over the states; whatever is told of each event.
-/
set_option linter.all false
namespace Go.Proofs.Ytchjbjplddhknaa
open Go Go.W Go.RowKit

def stepS (f : Flt) (σ : Sta) (x : Evt) : Sta := if chk f x = 0 ∧ chkS f σ x = 0 then doS σ x else σ
def errS (f : Flt) (σ : Sta) (x : Evt) : Int := if chk f x = 0 then chkS f σ x else chk f x
def beg (f : Flt) : Sta := ⟨List.replicate f.bk.toNat shop, []⟩
def stG {τ : Type} (f : Flt) (vis : τ → Sta → Evt → Int → τ) (v : Sta × τ) (x : Evt) : Sta × τ := if chk f x = 0 ∧ x.k = 10 then v else (stepS f v.1 x, vis v.2 (stepS f v.1 x) x (errS f v.1 x))
def runG {τ : Type} (f : Flt) (vis : τ → Sta → Evt → Int → τ) (t0 : τ) (es : List Evt) : Sta × τ := es.foldl (stG f vis) (beg f, t0)
theorem runG_succ {τ : Type} {f : Flt} {vis : τ → Sta → Evt → Int → τ} {t0 : τ} {es : List Evt} {j : Nat} (h : j < es.length) : runG f vis t0 (es.take (j + 1)) = stG f vis (runG f vis t0 (es.take j)) es[j] := by
  unfold runG
  rw [List.take_succ_eq_append_getElem h, List.foldl_append]
  rfl
theorem stG_beat {τ : Type} {f : Flt} {vis : τ → Sta → Evt → Int → τ} {v : Sta × τ} {x : Evt} (h : chk f x = 0) (hk : x.k = 10) : stG f vis v x = v := if_pos ⟨h, hk⟩
theorem stG_else {τ : Type} {f : Flt} {vis : τ → Sta → Evt → Int → τ} {v : Sta × τ} {x : Evt} (h : ¬ (chk f x = 0 ∧ x.k = 10)) : stG f vis v x = (stepS f v.1 x, vis v.2 (stepS f v.1 x) x (errS f v.1 x)) := if_neg h
theorem errS_zero {f : Flt} {σ : Sta} {x : Evt} : errS f σ x = 0 ↔ chk f x = 0 ∧ chkS f σ x = 0 := by
  unfold errS
  split
  · rename_i h; simp [h]
  · rename_i h; simp [h]
theorem stepS_yes {f : Flt} {σ : Sta} {x : Evt} (h : errS f σ x = 0) : stepS f σ x = doS σ x := if_pos (errS_zero.1 h)
theorem stepS_no {f : Flt} {σ : Sta} {x : Evt} (h : errS f σ x ≠ 0) : stepS f σ x = σ := if_neg fun h2 => h (errS_zero.2 h2)
theorem doS_len (σ : Sta) (x : Evt) : (doS σ x).sp.length = σ.sp.length := by
  unfold doS
  dsimp only
  split <;> (try simp)
  split <;> (try simp)
  split <;> (try simp)
  split
  · split <;> simp
  split <;> (try simp)
  split <;> (try simp)
  split <;> (try simp)
  split <;> simp
theorem stepS_len (f : Flt) (σ : Sta) (x : Evt) : (stepS f σ x).sp.length = σ.sp.length := by
  unfold stepS; split
  · exact doS_len σ x
  · rfl
theorem Inv.stepS {f : Flt} {σ : Sta} {x : Evt} (h : Inv σ) (hl : (σ.sp.length : Int) = f.bk) : Inv (stepS f σ x) := by
  unfold Go.Proofs.Ytchjbjplddhknaa.stepS
  split
  · rename_i h1; exact h.step h1.1 h1.2 hl
  · exact h
theorem Inv.beg (f : Flt) : Inv (beg f) := Inv.begin _ _ (by simp [shop]) (by simp [shop])
section
variable {w w' w0 : World} {S : List Nat} {L : List Blk}
theorem FlAt.shO {f : Flt} {A B : Option Addr} (h : FlAt w0 f A B) (hA : f.ds ≠ [] → Off A S) (hB : f.ts ≠ [] → Off B S) (H : SH w0 S w L) : FlAt w f A B := by
  refine ⟨?_, ?_, h.dl, h.tl⟩
  · by_cases hn : f.ds = []
    · rw [hn]; exact OnesAt.nil
    · exact h.ds.shS (hA hn) H
  · by_cases hn : f.ts = []
    · rw [hn]; exact OnesAt.nil
    · exact h.ts.shS (hB hn) H
theorem rowsO {es : List Evt} {A : Option Addr} (h : RowsAt 9 evC w0 A es) (hA : es ≠ [] → Off A S) (H : SH w0 S w L) : RowsAt 9 evC w A es := by
  by_cases hn : es = []
  · rw [hn]; exact RowsAt.nil
  · exact h.shS (hA hn) H
theorem OwnS.rowsE {A : Option Addr} {c : Nat} {es : List Evt} {Lo : List Blk} (h : OwnS A c es.length (es.flatMap evC) 56 9 Lo) (H : SH w0 S w L) (hs : ∀ b ∈ Lo, b ∈ L) : RowsAt 9 evC w A es := by
  rcases h.form with ⟨_, h0, _⟩ | ⟨g, sp, rfl, rfl, _⟩
  · have : es = [] := List.length_eq_zero_iff.1 h0
    subst this; exact RowsAt.nil
  · obtain ⟨i, hi⟩ := List.getElem?_of_mem (hs ⟨g, 56, es.flatMap evC ++ sp⟩ (by simp))
    exact rowsOwn (enc := evC) (sz := 9) (l := es) (post := sp) (fun _ => rfl) H i hi
theorem OwnS.tagE {A : Option Addr} {c n : Nat} {xs : List Value} {Lo : List Blk} (h : OwnS A c n xs 56 9 Lo) : ∀ b ∈ Lo, b.T = 56 := by
  rcases h.form with ⟨_, _, _, rfl⟩ | ⟨g, sp, rfl, rfl, _⟩
  · simp
  · simp
/-- the first state, as it lies behind begin -/
theorem Rep.first {f : Flt} {A B : Option Addr} {ca cb n gS gP gO gU : Nat} (hf : FlAt w0 f A B) (hn : f.bk = n) (hn2 : n ≤ 128) (Hw : SH w0 S w L) (hA : f.ds ≠ [] → Off A S) (hB : f.ts ≠ [] → Off B S) {w1 : World} (h1 : w0.heap.size ≤ w1.heap.size) (hO : gO ≠ gU) (h2 : w1.heap.size ≤ gO) (h3 : w1.heap.size ≤ gU) (MO : MapAt Try.prog 3 w gO []) (MU : MapAt Try.prog 3 w gU [])
    (H : SH w1 [] w [⟨gS, 70, flC f A ca B cb ++ [.slice (some ⟨gP, 0, none⟩) n n, .map (some gO), .map (some gU)]⟩, ⟨gP, 42, (List.replicate n shop).flatMap spC⟩]) :
    Rep w ⟨f, A, ca, B, cb, gS, gP, gO, gU, w0.heap.size⟩ (beg f) (fun _ => 0) := by
  have hbn : f.bk.toNat = n := by omega
  have hno : ∀ b, ∀ h : b < (beg f).sp.length, (beg f).sp[b].wh ≠ 3 := by
    intro b hb
    simp [beg, shop]
  have hmS := H.fresh gS (by simp)
  have hmP := H.fresh gP (by simp)
  refine ⟨hf.shO hA hB Hw, ?_, ?_, ⟨[], MO, fun p => ⟨fun h => (by cases h), ?_⟩⟩, ⟨[], MU, fun p => ⟨fun h => (by cases h), ?_⟩⟩, fun b hb hw => absurd hw (hno b hb), ?_, ?_, ?_, hO, ⟨?_, ?_, ?_, ?_, fun b hb hw => absurd hw (hno b hb)⟩⟩
  · have := H.own _ (List.mem_cons_self ..)
    show w.heap[gS]? = some (.cells (Loc.cs _ (List.replicate f.bk.toNat shop).length).toArray 70 (0, 0))
    rw [List.length_replicate, hbn]
    exact this
  · have := H.own ⟨gP, 42, (List.replicate n shop).flatMap spC⟩ (by simp)
    show w.heap[gP]? = some (.cells ((List.replicate f.bk.toNat shop).flatMap spC).toArray 42 (0, 0))
    rw [hbn]; exact this
  · rintro ⟨b, hb, hw, _⟩; exact absurd hw (hno b hb)
  · rintro ⟨i, hi, _⟩; cases hi
  · show ((List.replicate f.bk.toNat shop).length : Int) = f.bk
    rw [List.length_replicate]; omega
  · show (List.replicate f.bk.toNat shop).length ≤ 128
    rw [List.length_replicate]; omega
  · intro b o hh
    rcases hh with ⟨h4, h5⟩ | ⟨h4, h5⟩
    · obtain ⟨b', o', h6, h7⟩ := hf.ds 0 (List.length_pos_iff.2 h5)
      have h4 : A = some ⟨b, o, none⟩ := h4
      rw [h6] at h4; cases h4
      exact cell_lt h7
    · obtain ⟨b', o', h6, h7⟩ := hf.ts 0 (List.length_pos_iff.2 h5)
      have h4 : B = some ⟨b, o, none⟩ := h4
      rw [h6] at h4; cases h4
      exact cell_lt h7
  · show w0.heap.size ≤ gS; omega
  · show w0.heap.size ≤ gP; omega
  · show w0.heap.size ≤ gO; omega
  · show w0.heap.size ≤ gU; omega
end
section
variable {P : Program} {e : Env} {w : World} {ty t : TypeId} {x y : Operand}
theorem Ev.neqFq {t' : TypeId} {ps rs : Array TypeId} {v q : Bool} {fv : Value} (hU : ∀ w, (underlying t).run P w = .ok (.func ps rs v) w) (hx : ev e x = fv) (hy : ev e y = .nilFunc) (hq : (q = false ∧ fv = .nilFunc) ∨ (q = true ∧ ∃ f fs cs, fv = .func f fs cs)) : Ev P e w ty (.binOp .neq t x y t') (.bool q) :=
  ⟨fun w' _ o ho _ => by
    rcases hq with ⟨rfl, rfl⟩ | ⟨rfl, f, fs, cs, rfl⟩
    · have hq : ∀ w, (Op.equal t .nilFunc .nilFunc).run P w = .ok true w := by
        intro w
        unfold Op.equal
        rw [show Op.maxDepth = 9999 + 1 from rfl, Op.equalIn]
        simp [hU]
      unfold execOp; rw [ho]; simp [hx, hy, eqGuard, binOp, hq]
    · have hq : ∀ w, (Op.equal t (.func f fs cs) .nilFunc).run P w = .ok false w := by
        intro w
        unfold Op.equal
        rw [show Op.maxDepth = 9999 + 1 from rfl, Op.equalIn]
        simp [hU]
      unfold execOp; rw [ho]; simp [hx, hy, eqGuard, binOp, hq]⟩
end
end Go.Proofs.Ytchjbjplddhknaa

/-
  Walks: Merge of two replicas that hold parts of a good list.
-/
set_option linter.all false
namespace Go.Proofs.Ytchjbjplddhknaa
open Go Go.W Go.RowKit

section
variable {w w' w0 : World} {S : List Nat} {L : List Blk} {n : Int} {gR gM : Nat} {es : List Evt}
theorem RepR.off (h : RepR w n gR gM es) (H : SH w0 S w L) (hT : ∀ b ∈ L, b.T ≠ 61) : gR ∉ L.map (·.g) ∧ gM ∉ L.map (·.g) := by
  refine ⟨fun hm => ?_, h.mp.notMem H⟩
  obtain ⟨b, hb, rfl⟩ := List.mem_map.1 hm
  have ho := H.own b hb
  rw [h.st] at ho
  simp at ho
  exact hT b hb ho.2.symm
theorem RepR.ne {n' : Int} {gR' gM' : Nat} {es' : List Evt} (h : RepR w n gR gM es) (h' : RepR w n' gR' gM' es') : gR ≠ gM' := fun he => by
  obtain ⟨_, _, h1, _⟩ := h'.mp.ex
  rw [← he, h.st] at h1; cases h1
end
theorem mrgL_succ {n : Int} {es xs : List Evt} {j : Nat} (h : j < xs.length) : mrgL n es (xs.take (j + 1)) = addL n (mrgL n es (xs.take j)) xs[j] := by
  unfold mrgL
  rw [List.take_succ_eq_append_getElem h, List.foldl_append]
  rfl
theorem mergeR (n : Int) (hn : n ≤ 256) (gR1 gM1 gR2 gM2 : Nat) (G es1 es2 : List Evt) (w0 : World) (h1 : RepR w0 n gR1 gM1 es1) (h2 : RepR w0 n gR2 gM2 es2) (hne : gM1 ≠ gM2) (hG : Good n G) (s1 : ∀ y ∈ es1, y ∈ G) (s2 : ∀ y ∈ es2, y ∈ G) (hd : es1.Nodup) (hl : es1.length + es2.length ≤ 400) :
    Calls Try.prog 8 #[.pointer (some ⟨gR1, 0, none⟩), .pointer (some ⟨gR2, 0, none⟩)] w0 fun e w' => e = .returned (I 0) ∧ SH w0 [gM1] w' [] ∧ RepR w' n gR1 gM1 (mrgL n es1 (srtE es2)) := by
  have H := (SH.refl w0).weak (S' := [gM1]) (by simp)
  have hm : ∀ y ∈ srtE es2, y ∈ G := fun y hy => s2 y ((srtE_perm es2).subset hy)
  have n1 : gR1 ∉ [gM1] := by simpa using h1.ne h1
  have n2 : gR2 ∉ [gM1] := by simpa using h2.ne h1
  have n3 : gM2 ∉ [gM1] := by simpa using hne.symm
  have c1 : w0.cell? ⟨gR1, 0, none⟩ = some (I n) := cell_heap h1.st rfl
  have c2 : w0.cell? ⟨gR2, 0, none⟩ = some (I n) := cell_heap h2.st rfl
  refine Calls.ofWP Try.func8 rfl Try.results8 Try.ntmps8 rfl ?_
  refine WP.seq ?_
  refine WP.region ?_
  refine OPS.val rfl rfl rfl (Ev.asI rfl) ?_
  refine OPS.nil ?_
  refine WP.seq ?_
  refine WP.block ?_
  refine WP.seq ?_
  refine WP.region ?_
  refine OPS.val rfl rfl rfl (Ev.mvP rfl) ?_
  refine OPS.val rfl rfl rfl (Ev.eqlPn Try.runUnderlying29 rfl rfl) ?_
  refine OPS.val rfl rfl rfl (Ev.mvB rfl) ?_
  refine OPS.gval rfl rfl rfl rfl rfl (fun hg => Ev.mvP (by first | rfl | exact gvE hg rfl)) ?_
  refine OPS.gval rfl rfl rfl rfl rfl (fun hg => Ev.eqlPn Try.runUnderlying29 (by first | rfl | exact gvE hg rfl) rfl) ?_
  refine OPS.val rfl rfl rfl ((by first | exact Ev.pickOr rfl rfl rfl | exact Ev.pickAnd rfl rfl rfl)) ?_
  refine OPS.val rfl rfl rfl (Ev.asB rfl) ?_
  refine OPS.nil ?_
  refine WP.cond rfl (fun hc1 => ?_) (fun hc1 => ?_)
  · refine WP.seq ?_
    refine WP.region ?_
    refine OPS.val rfl rfl rfl (Ev.asI rfl) ?_
    refine OPS.nil ?_
    refine WP.ret ⟨_, rfl, ?_⟩
    cases hc1
  refine WP.seq ?_
  have hR1 : RepR w0 n gR1 gM1 (mrgL n es1 ((srtE es2).take 0)) := h1
  have HX : ∀ {w : World}, Below w0.heap.size w0 w → RepR w n gR1 gM1 (mrgL n es1 ((srtE es2).take 0)) := fun hb => hR1.sh ((SH.refl w0).toBelow hb) (by simp) (by simp)
  refine WP.rstill mixed (by kernel_rfl) H ?_
  clear H; intro w hbw3 H
  refine OPS.val rfl rfl rfl (Ev.mvP rfl) ?_
  refine OPS.val rfl rfl rfl ((by first | exact Ev.nilCheckP rfl | exact Ev.nilCheckF rfl)) ?_
  refine OPS.val rfl rfl rfl (Ev.fieldAddr (fld_run rfl) rfl) ?_
  refine OPS.val rfl rfl rfl (Ev.load1 (agg_run rfl) rfl (H.ldS c1 n1)) ?_
  refine OPS.val rfl rfl rfl (Ev.mvP rfl) ?_
  refine OPS.val rfl rfl rfl ((by first | exact Ev.nilCheckP rfl | exact Ev.nilCheckF rfl)) ?_
  refine OPS.val rfl rfl rfl (Ev.fieldAddr (fld_run rfl) rfl) ?_
  refine OPS.val rfl rfl rfl (Ev.load1 (agg_run rfl) rfl (H.ldS c2 n2)) ?_
  refine OPS.val rfl rfl rfl (Ev.neq rfl rfl) ?_
  refine OPS.val rfl rfl rfl (Ev.asB rfl) ?_
  refine OPS.nil_s ?_
  refine WP.cond rfl (fun hc3 => ?_) (fun hc3 => ?_)
  · refine WP.seq ?_
    refine WP.region ?_
    refine OPS.val rfl rfl rfl (Ev.asI rfl) ?_
    refine OPS.nil ?_
    refine WP.ret ⟨_, rfl, ?_⟩
    simp at hc3
  refine WP.skip ?_
  refine WP.seq ?_
  refine WP.region ?_
  refine OPS.val rfl rfl rfl (Ev.asI rfl) ?_
  refine OPS.nil ?_
  refine WP.seq ?_
  refine WP.seq ?_
  have hRw := HX hbw3
  refine WP.region ?_
  refine OPS.val rfl rfl rfl (Ev.mvP rfl) ?_
  refine OPS.call (d := some 28) rfl rfl rfl (EvC.func (fun_run rfl)) (events n gR2 gM2 es2 w (h2.sh H n2 n3) (by omega)) ?_
  rintro _ w ⟨A, c, Lo, rfl, hO, Hc⟩
  refine ⟨_, rfl, ?_⟩
  replace hRw := hRw.sh Hc (by simp) (by simp)
  replace H := SH.call (Lv := []) (by rw [List.append_nil]; exact H) Hc
  replace H : SH w0 [gM1] w Lo := H
  have hO' : OwnS A c (srtE es2).length ((srtE es2).flatMap evC) 56 9 Lo := by rw [srtE_len]; exact hO
  have htg := OwnS.tagE hO'
  have hls := srtE_len es2
  refine OPS.val rfl rfl rfl (Ev.len (el_run rfl) rfl) ?_
  refine OPS.val rfl rfl rfl (Ev.mvI rfl) ?_
  refine OPS.nil ?_
  refine WP.block ?_
  refine WP.loop [5, 7, 8, 9, 30, 31, 32, 33, 34, 35, 36, 37, 38, 39, 40, 41, 42, 43, 44, 45, 46, 47] (fun k e w' => ∃ (j : Nat), j + k = es2.length ∧ e 5 = I 0 ∧ e 30 = I j ∧ RepR w' n gR1 gM1 (mrgL n es1 ((srtE es2).take j)) ∧ SH w0 [gM1] w' Lo) (es2.length) (⟨0, by omega, rfl, rfl, hRw, H⟩) ?_
  clear H hRw
  rintro k u wh ⟨j, hk, h5, h30, hR, H⟩
  refine WP.know (t := 5) h5 (WP.know (t := 30) h30 ?_)
  refine WP.seq ?_
  refine WP.region ?_
  refine OPS.val rfl rfl rfl (Ev.lss rfl rfl) ?_
  refine OPS.nil ?_
  refine WP.seq ?_
  refine WP.cond rfl (fun hc7 => ?_) (fun hc7 => ?_)
  · have hlt : j < (srtE es2).length := by have h := of_decide_eq_true hc7; omega
    obtain ⟨x, hx⟩ : ∃ x, x = (srtE es2)[j] := ⟨_, rfl⟩
    have hxG : x ∈ G := hm x (hx ▸ List.getElem_mem hlt)
    have hmk := mrg_ok hG ((srtE es2).take j) es1 s1 (fun y hy => hm y ((List.take_sublist _ _).subset hy)) hd
    have h0 : addE n (mrgL n es1 ((srtE es2).take j)) x = 0 := hG.take (fun y hy => by
      rcases (hmk.1 y).1 hy with h | h
      · exact s1 y h
      · exact hm y ((List.take_sublist _ _).subset h)) hxG
    have hsucc := mrgL_succ (n := n) (es := es1) hlt
    rw [← hx] at hsucc
    have hml := mrg_len n ((srtE es2).take j) es1
    rw [List.length_take] at hml
    have HB := H
    have hoff := hR.off H (fun b hb => by rw [htg b hb]; simp)
    replace H := H.restart (List.Sublist.refl _)
    obtain ⟨bx, ox, rfl, hxc⟩ := OwnS.rowsE hO' H (fun b hb => hb) j hlt
    rw [← hx] at hxc
    refine WP.skip ?_
    refine WP.seq ?_
    refine WP.block ?_
    refine WP.seq ?_
    refine WP.region ?_
    refine OPS.val rfl rfl rfl ((by first | exact Ev.indexAddr1 (el_run rfl) (size_run rfl) rfl rfl rfl (by omega) | exact Ev.indexAddr (el_run rfl) (size_run rfl) rfl rfl rfl (by omega))) ?_
    refine OPS.val rfl rfl rfl ((by first | exact Ev.loadO 0 H rfl (agg_run rfl) (size_run rfl) (by first | assumption | rfl) rfl | exact Ev.loadO 1 H rfl (agg_run rfl) (size_run rfl) (by first | assumption | rfl) rfl | exact Ev.loadO 2 H rfl (agg_run rfl) (size_run rfl) (by first | assumption | rfl) rfl | exact Ev.loadO 3 H rfl (agg_run rfl) (size_run rfl) (by first | assumption | rfl) rfl | exact Ev.loadO 4 H rfl (agg_run rfl) (size_run rfl) (by first | assumption | rfl) rfl | exact Ev.loadO 5 H rfl (agg_run rfl) (size_run rfl) (by first | assumption | rfl) rfl | exact Ev.loadO 6 H rfl (agg_run rfl) (size_run rfl) (by first | assumption | rfl) rfl | (change Ev _ _ _ _ (Op.load 56 (Operand.tmp 32)) _; exact Ev.loadN (evC x) (agg_run rfl) (size_run rfl) rfl hxc))) ?_
    refine OPS.alloc rfl rfl rfl rfl (zero_run rfl) rfl H ?_
    clear H; intro g7 w H
    first | refine OPS.store 0 _ rfl rfl rfl (size_run rfl) rfl (cA rfl) rfl rfl H rfl (by simp) ?_ | refine OPS.store 1 _ rfl rfl rfl (size_run rfl) rfl (cA rfl) rfl rfl H rfl (by simp) ?_ | refine OPS.store 2 _ rfl rfl rfl (size_run rfl) rfl (cA rfl) rfl rfl H rfl (by simp) ?_ | refine OPS.store 3 _ rfl rfl rfl (size_run rfl) rfl (cA rfl) rfl rfl H rfl (by simp) ?_ | refine OPS.store 4 _ rfl rfl rfl (size_run rfl) rfl (cA rfl) rfl rfl H rfl (by simp) ?_ | refine OPS.store 5 _ rfl rfl rfl (size_run rfl) rfl (cA rfl) rfl rfl H rfl (by simp) ?_ | refine OPS.store 6 _ rfl rfl rfl (size_run rfl) rfl (cA rfl) rfl rfl H rfl (by simp) ?_ | refine OPS.store 7 _ rfl rfl rfl (size_run rfl) rfl (cA rfl) rfl rfl H rfl (by simp) ?_ | refine OPS.store 8 _ rfl rfl rfl (size_run rfl) rfl (cA rfl) rfl rfl H rfl (by simp) ?_
    clear H; intro w H; try simp only [List.set_cons_zero, List.set_cons_succ, putL, Nat.zero_add] at H
    refine OPS.nil ?_
    replace H : SH wh (Lo.map (·.g)) w (⟨g7, 56, evC x⟩ :: Lo) := H
    have hcall := addR n hn gR1 gM1 (mrgL n es1 ((srtE es2).take j)) x w (hR.sh H hoff.1 hoff.2) (by omega)
    rw [h0, ← hsucc] at hcall
    refine WP.seq ?_
    refine WP.region ?_
    refine OPS.val rfl rfl rfl (Ev.mvP rfl) ?_
    refine OPS.val rfl rfl rfl ((by first | exact Ev.loadO 0 H rfl (agg_run rfl) (size_run rfl) (by first | assumption | rfl) rfl | exact Ev.loadO 1 H rfl (agg_run rfl) (size_run rfl) (by first | assumption | rfl) rfl | exact Ev.loadO 2 H rfl (agg_run rfl) (size_run rfl) (by first | assumption | rfl) rfl | exact Ev.loadO 3 H rfl (agg_run rfl) (size_run rfl) (by first | assumption | rfl) rfl | exact Ev.loadO 4 H rfl (agg_run rfl) (size_run rfl) (by first | assumption | rfl) rfl | exact Ev.loadO 5 H rfl (agg_run rfl) (size_run rfl) (by first | assumption | rfl) rfl | exact Ev.loadO 6 H rfl (agg_run rfl) (size_run rfl) (by first | assumption | rfl) rfl | (change Ev _ _ _ _ (Op.load 56 (Operand.tmp 7)) _; fail))) ?_
    refine OPS.call (d := some 37) rfl rfl rfl (EvC.func (fun_run rfl)) (hcall) ?_
    rintro _ w ⟨rfl, Hc, hR'⟩
    refine ⟨_, rfl, ?_⟩
    have H0 := SH.cont HB H
    have H1 := SH.back H0 Hc (fun g hg => ⟨.inr hg, by
      have hg : g = gM1 := by simpa using hg
      subst hg
      exact (hR.sh H hoff.1 hoff.2).mp.notMem H0⟩)
    clear H; have H := H1; clear H1
    rw [List.nil_append] at H
    refine OPS.val rfl rfl rfl (Ev.mvT rfl) ?_
    refine OPS.val rfl rfl rfl (Ev.extract rfl rfl) ?_
    refine OPS.val rfl rfl rfl (Ev.extract rfl rfl) ?_
    refine OPS.val rfl rfl rfl (Ev.asB rfl) ?_
    refine OPS.val rfl rfl rfl (Ev.asI rfl) ?_
    refine OPS.nil ?_
    refine WP.seq ?_
    refine WP.region ?_
    refine OPS.val rfl rfl rfl (Ev.mvI rfl) ?_
    refine OPS.val rfl rfl rfl (Ev.neq rfl rfl) ?_
    refine OPS.val rfl rfl rfl (Ev.mvB rfl) ?_
    refine OPS.gval rfl rfl rfl rfl rfl (fun hg => Ev.mvI (by first | rfl | exact gvE hg rfl)) ?_
    refine OPS.gval rfl rfl rfl rfl rfl (fun hg => Ev.eql (by first | rfl | exact gvE hg rfl) (by first | rfl | exact gvE hg rfl)) ?_
    refine OPS.val rfl rfl rfl ((by first | exact Ev.pickOr rfl rfl rfl | exact Ev.pickAnd rfl rfl rfl)) ?_
    refine OPS.nil ?_
    refine WP.cond rfl (fun hc10 => ?_) (fun hc10 => ?_)
    · simp at hc10
    refine WP.skip ?_
    refine WP.region ?_
    refine OPS.val rfl rfl rfl (Ev.add rfl rfl (by unfold fits; omega)) ?_
    refine OPS.val rfl rfl rfl (Ev.mvI rfl) ?_
    refine OPS.nil ?_
    exact ⟨(by repeat (first | exact Agree.refl _ _ | exact Agree.mix _ _ _ | refine Agree.upd rfl ?_ | refine Agree.mix2 rfl ?_)), k - 1, by omega, j + 1, by omega, rfl, rfl, hR', H.drop (List.sublist_cons_self _ _)⟩
  refine WP.exit ?_
  refine XB.hit ?_
  refine WP.seq ?_
  refine WP.region ?_
  refine OPS.val rfl rfl rfl (Ev.mvI rfl) ?_
  refine OPS.val rfl rfl rfl (Ev.asI rfl) ?_
  refine OPS.nil ?_
  refine WP.ret ⟨_, rfl, ?_⟩
  have hj : j = es2.length := by have h := of_decide_eq_false hc7; omega
  rw [List.take_of_length_le (by omega)] at hR
  exact ⟨rfl, H.drop (List.nil_sublist _), hR⟩
end Go.Proofs.Ytchjbjplddhknaa

/-
  Walks: split.
-/
set_option linter.all false
namespace Go.Proofs.Ytchjbjplddhknaa
open Go Go.W Go.RowKit

section
variable {P : Program} {e : Env} {w : World} {ty t : TypeId} {x y : Operand}
theorem Ev.shrU {t' : TypeId} {k k' : IntKind} {a b : Int} (hx : ev e x = .int k a) (hy : ev e y = .int k' b) (h : 0 ≤ b) (h2 : b ≤ k.bits) : Ev P e w ty (.binOp .shr t x y t') (.int k (a / 2 ^ b.toNat)) :=
  ⟨fun w' _ o ho _ => by
    have hr : ∀ w, (binOp .shr t (.int k a) (.int k' b)).run P w = .ok (.int k (a / 2 ^ b.toNat)) w := fun w => by
      rw [binOp_shr, shift_shr _ _ _ _ h h2]
      rfl
    unfold execOp; rw [ho]; simp only [hx, hy, eqGuard, Sem.run_bind, hr, Sem.run_pure] <;> simp⟩
theorem u64_and1 (n : Int) : bits .and .u64 n 1 = n % 2 := by
  have h127 : (BitVec.ofInt 64 1).toNat = 2 ^ 1 - 1 := by decide
  have key : (BitVec.ofInt 64 n &&& BitVec.ofInt 64 1).toNat = (n % ((2 ^ 64 : Nat) : Int)).toNat % 2 ^ 1 := by
    rw [BitVec.toNat_and, BitVec.toNat_ofInt, h127, Nat.and_two_pow_sub_one_eq_mod]
  show IntKind.u64.wrap ((BitVec.ofInt 64 n &&& BitVec.ofInt 64 1).toNat : Nat) = n % 2
  rw [key, IntKind.wrap_u64]
  omega
theorem Ev.and1U {t' : TypeId} {a : Int} (hx : ev e x = .int .u64 a) (hy : ev e y = .int .u64 1) : Ev P e w ty (.binOp .and t x y t') (.int .u64 (a % 2)) :=
  Ev.bin hx hy fun w => by
    rw [binOp_and, intBits_and, u64_and1]
    rfl
end
/-- three replicas -/
structure Three (w0 w : World) (n : Int) (gR gM : Nat → Nat) (es : Nat → List Evt) (k : Nat) : Prop where
  rp : ∀ q, q < k → RepR w n (gR q) (gM q) (es q)
  ne : ∀ q p, q < k → p < k → q ≠ p → gM q ≠ gM p
  fr : ∀ q, q < k → w0.heap.size ≤ gM q
theorem Three.below {w0 w w' : World} {n : Int} {gR gM : Nat → Nat} {es : Nat → List Evt} {k : Nat} (h : Three w0 w n gR gM es k) (hb : Below w.heap.size w w') : Three w0 w' n gR gM es k :=
  ⟨fun q hq => (h.rp q hq).sh ((SH.refl w).toBelow hb) (by simp) (by simp), h.ne, h.fr⟩
theorem Three.set {w0 w w' : World} {n : Int} {gR gM : Nat → Nat} {es : Nat → List Evt} {k q : Nat} {es' : List Evt} (h : Three w0 w n gR gM es k) (hq : q < k) (H : SH w [gM q] w' []) (hR : RepR w' n (gR q) (gM q) es') : Three w0 w' n gR gM (fun p => if p = q then es' else es p) k := by
  refine ⟨fun p hp => ?_, h.ne, h.fr⟩
  by_cases hpq : p = q
  · subst hpq; simpa using hR
  · simp only [if_neg hpq]
    exact (h.rp p hp).sh H (by simpa using (h.rp p hp).ne (h.rp q hq)) (by simpa using h.ne p q hp hq hpq)
theorem Three.new {w0 w w' : World} {n : Int} {gR gM : Nat → Nat} {es : Nat → List Evt} {k g m : Nat} (h : Three w0 w n gR gM es k) (hs : w0.heap.size ≤ w.heap.size) (hm : w.heap.size ≤ m) (M : MapAt Try.prog 78 w' m []) (H : SH w [] w' [⟨g, 61, [I n, .map (some m)]⟩]) :
    Three w0 w' n (fun q => if q = k then g else gR q) (fun q => if q = k then m else gM q) (fun q => if q = k then [] else es q) (k + 1) := by
  have h' := h.below H.below
  have hlt : ∀ q, q < k → gM q < m := fun q hq => Nat.lt_of_lt_of_le (h.rp q hq).mp.lt hm
  refine ⟨fun q hq => ?_, fun q p hq hp hne => ?_, fun q hq => ?_⟩
  · by_cases hk : q = k
    · simp only [if_pos hk]
      exact ⟨H.own ⟨g, 61, [I n, .map (some m)]⟩ (by simp), M, by simp⟩
    · simp only [if_neg hk]; exact h'.rp q (by omega)
  · by_cases hk : q = k <;> by_cases hk2 : p = k
    · omega
    · simp only [if_pos hk, if_neg hk2]; have := hlt p (by omega); omega
    · simp only [if_pos hk2, if_neg hk]; have := hlt q (by omega); omega
    · simp only [if_neg hk, if_neg hk2]; exact h.ne q p (by omega) (by omega) hne
  · by_cases hk : q = k
    · simp only [if_pos hk]; omega
    · simp only [if_neg hk]; exact h.fr q (by omega)
theorem Three.keep {w0 wb w w' : World} {S : List Nat} {L L' : List Blk} {n : Int} {gR gM : Nat → Nat} {es : Nat → List Evt} {k : Nat} (h : Three w0 w n gR gM es k) (H0 : SH wb S w L) (hT : ∀ b ∈ L, b.T ≠ 61) (H : SH w (L.map (·.g)) w' L') : Three w0 w' n gR gM es k :=
  ⟨fun q hq => (h.rp q hq).sh H ((h.rp q hq).off H0 hT).1 ((h.rp q hq).off H0 hT).2, h.ne, h.fr⟩
/-- how the events of l, so far, are divided -/
structure Spl (n : Int) (l : List Evt) (i : Nat) (es : Nat → List Evt) : Prop where
  good : Good n (es 0)
  sub : ∀ q, q < 3 → ∀ y ∈ es q, y ∈ es 0
  cov : ∀ y ∈ es 0, y ∈ es 1 ∨ y ∈ es 2
  nd : ∀ q, q < 3 → (es q).Nodup
  src : ∀ y ∈ es 0, y ∈ l
  len : ∀ q, q < 3 → (es q).length ≤ i
theorem Spl.step {n : Int} {l : List Evt} {i : Nat} {es : Nat → List Evt} (h : Spl n l i es) {x : Evt} (hx : x ∈ l) (h0 : addE n (es 0) x = 0) (q : Nat) (hq : q = 1 ∨ q = 2) : Spl n l (i + 1) (fun p => if p = q then addL n (es q) x else if p = 0 then addL n (es 0) x else es p) ∧ addE n (es q) x = 0 := by
  have hq3 : q < 3 := by omega
  have hq0 : ¬ 0 = q := by omega
  have hG := h.good.add (x := x)
  have hm0 := addL_mem h0
  have hxG : x ∈ addL n (es 0) x := (hm0 x).2 (.inr rfl)
  have hsubq : ∀ p, p < 3 → ∀ y ∈ es p, y ∈ addL n (es 0) x := fun p hp y hy => addL_sub y (h.sub p hp y hy)
  have hq0' : addE n (es q) x = 0 := hG.take (hsubq q hq3) hxG
  have hmq := addL_mem hq0'
  refine ⟨⟨?_, ?_, ?_, ?_, ?_, ?_⟩, hq0'⟩
  · simpa [hq0] using hG
  · intro p hp y hy
    simp only [if_neg hq0, if_true]
    by_cases h1 : p = q
    · simp only [if_pos h1] at hy
      rcases (hmq y).1 hy with h2 | rfl
      · exact hsubq q hq3 y h2
      · exact hxG
    · simp only [if_neg h1] at hy
      by_cases h2 : p = 0
      · simpa [h2] using hy
      · simp only [if_neg h2] at hy; exact hsubq p hp y hy
  · intro y hy
    simp only [if_neg hq0, if_true] at hy
    have key : ∀ p, p = 1 ∨ p = 2 → y ∈ es p → y ∈ (if p = q then addL n (es q) x else if p = 0 then addL n (es 0) x else es p) := by
      intro p hp hy
      by_cases h1 : p = q
      · subst h1; simp only [if_true]; exact addL_sub y hy
      · have h2 : ¬ p = 0 := by omega
        simp only [if_neg h1, if_neg h2]; exact hy
    rcases (hm0 y).1 hy with h1 | rfl
    · rcases h.cov y h1 with h2 | h2
      · exact .inl (key 1 (.inl rfl) h2)
      · exact .inr (key 2 (.inr rfl) h2)
    · have h2 : y ∈ addL n (es q) y := (hmq y).2 (.inr rfl)
      rcases hq with rfl | rfl
      · left; simpa using h2
      · right; simpa using h2
  · intro p hp
    by_cases h1 : p = q
    · simp only [if_pos h1]; exact addL_nodup (h.nd q hq3)
    · simp only [if_neg h1]
      by_cases h2 : p = 0
      · simp only [if_pos h2]; exact addL_nodup (h.nd 0 (by omega))
      · simp only [if_neg h2]; exact h.nd p hp
  · intro y hy
    simp only [if_neg hq0, if_true] at hy
    rcases (hm0 y).1 hy with h1 | rfl
    · exact h.src y h1
    · exact hx
  · intro p hp
    by_cases h1 : p = q
    · simp only [if_pos h1]; have := addL_len n (es q) x; have := h.len q hq3; omega
    · simp only [if_neg h1]
      by_cases h2 : p = 0
      · simp only [if_pos h2]; have := addL_len n (es 0) x; have := h.len 0 (by omega); omega
      · simp only [if_neg h2]; have := h.len p hp; omega
theorem Spl.stay {n : Int} {l : List Evt} {i : Nat} {es : Nat → List Evt} (h : Spl n l i es) : Spl n l (i + 1) es := ⟨h.good, h.sub, h.cov, h.nd, h.src, fun q hq => by have := h.len q hq; omega⟩
theorem Spl.congr {n : Int} {l : List Evt} {i : Nat} {es es' : Nat → List Evt} (h : Spl n l i es) (he : ∀ q, q < 3 → es' q = es q) : Spl n l i es' := by
  refine ⟨?_, ?_, ?_, ?_, ?_, ?_⟩
  · rw [he 0 (by omega)]; exact h.good
  · intro q hq; rw [he q hq, he 0 (by omega)]; exact h.sub q hq
  · rw [he 0 (by omega), he 1 (by omega), he 2 (by omega)]; exact h.cov
  · intro q hq; rw [he q hq]; exact h.nd q hq
  · rw [he 0 (by omega)]; exact h.src
  · intro q hq; rw [he q hq]; exact h.len q hq
theorem Spl.first (n : Int) (l : List Evt) : Spl n l 0 (fun _ => []) :=
  ⟨Good.nil n, fun _ _ y h => (by cases h), fun y h => (by cases h), fun _ _ => List.nodup_nil, fun y h => (by cases h), fun _ _ => Nat.le_refl _⟩
def ptQ (gR : Nat → Nat) (j q : Nat) : Value := if q < j then .pointer (some ⟨gR q, 0, none⟩) else .pointer none
def arr3 (gR : Nat → Nat) (j : Nat) : List Value := [ptQ gR j 0, ptQ gR j 1, ptQ gR j 2]
theorem arr3_put (gR : Nat → Nat) (j g : Nat) (h : j < 3) : putL (arr3 gR j) j [.pointer (some ⟨g, 0, none⟩)] = arr3 (fun q => if q = j then g else gR q) (j + 1) := by
  have : j = 0 ∨ j = 1 ∨ j = 2 := by omega
  rcases this with rfl | rfl | rfl <;> rfl
theorem arr3_get (gR : Nat → Nat) (q : Nat) (h : q < 3) : (arr3 gR 3)[q]? = some (.pointer (some ⟨gR q, 0, none⟩)) := by
  have : q = 0 ∨ q = 1 ∨ q = 2 := by omega
  rcases this with rfl | rfl | rfl <;> rfl
theorem splitBad (n : Int) (hn : n < 1 ∨ 256 < n) (El : Option Addr) (m ce : Nat) (parts : Int) (w0 : World) :
    Calls Try.prog 6 #[I n, .slice El m ce, .int .u64 parts] w0 fun e w' => e = .returned (.tuple #[.agg #[.pointer none, .pointer none, .pointer none], .bool false]) ∧ SH w0 [] w' [] := by
  have H := SH.refl w0
  refine Calls.ofWPc Try.func6 rfl Try.results6 Try.ntmps6 rfl ?_
  refine WP.seq ?_
  refine WP.region ?_
  refine OPS.alloc rfl rfl rfl rfl (zero_run rfl) rfl H ?_
  clear H; intro g6 w H
  refine OPS.val rfl rfl rfl (Ev.asB rfl) ?_
  refine OPS.nil ?_
  refine WP.seq ?_
  refine WP.region ?_
  refine OPS.alloc rfl rfl rfl rfl (zero_run rfl) rfl H ?_
  clear H; intro g8 w H
  refine OPS.nil ?_
  refine WP.seq ?_
  refine WP.seq ?_
  refine WP.region ?_
  refine OPS.val rfl rfl rfl (Ev.mvI rfl) ?_
  refine OPS.nil ?_
  refine WP.block ?_
  refine WP.loop [7, 9, 10, 11, 15, 16, 17, 18, 19, 20, 21, 22, 23, 24, 25, 26, 27, 28, 29, 30, 31, 32, 33] (fun k e w' => e 15 = I 0 ∧ SH w0 [] w' [⟨g8, 30, [.pointer none, .pointer none, .pointer none]⟩, ⟨g6, 30, [.pointer none, .pointer none, .pointer none]⟩]) (0) (⟨rfl, H⟩) ?_
  clear H
  rintro k u w ⟨h15, H⟩
  refine WP.know (t := 15) h15 ?_
  refine WP.seq ?_
  refine WP.region ?_
  refine OPS.val rfl rfl rfl (Ev.lss rfl rfl) ?_
  refine OPS.nil ?_
  refine WP.seq ?_
  refine WP.cond rfl (fun hc3 => ?_) (fun hc3 => ?_)
  · refine WP.skip ?_
    refine WP.seq ?_
    refine WP.block ?_
    refine WP.seq ?_
    refine WP.region ?_
    refine OPS.val rfl rfl rfl (Ev.mvI rfl) ?_
    refine OPS.val rfl rfl rfl (Ev.asI rfl) ?_
    refine OPS.nil ?_
    refine WP.seq ?_
    have hcall := (gossipNew n w).mono (R' := fun e w' => e = .returned (.tuple #[.pointer none, I 1]) ∧ Below w.heap.size w w') (fun e w' h => by
      rcases h with ⟨_, h⟩ | ⟨h, _⟩
      · exact h
      · omega)
    refine WP.region ?_
    refine OPS.val rfl rfl rfl (Ev.mvI rfl) ?_
    refine OPS.call (d := some 20) rfl rfl rfl (EvC.func (fun_run rfl)) (hcall) ?_
    rintro _ w ⟨rfl, hb⟩
    refine ⟨_, rfl, ?_⟩
    replace H := H.toBelow hb; clear hb
    refine OPS.val rfl rfl rfl (Ev.mvT rfl) ?_
    refine OPS.val rfl rfl rfl (Ev.extract rfl rfl) ?_
    refine OPS.val rfl rfl rfl (Ev.extract rfl rfl) ?_
    refine OPS.val rfl rfl rfl (Ev.asP rfl) ?_
    refine OPS.val rfl rfl rfl (Ev.asI rfl) ?_
    refine OPS.nil ?_
    refine WP.seq ?_
    refine WP.seq ?_
    refine WP.region ?_
    refine OPS.val rfl rfl rfl (Ev.mvP rfl) ?_
    refine OPS.val rfl rfl rfl (Ev.eqlPn Try.runUnderlying29 rfl rfl) ?_
    refine OPS.val rfl rfl rfl (Ev.mvB rfl) ?_
    refine OPS.gval rfl rfl rfl rfl rfl (fun hg => Ev.mvI (by first | rfl | exact gvE hg rfl)) ?_
    refine OPS.gval rfl rfl rfl rfl rfl (fun hg => Ev.neq (by first | rfl | exact gvE hg rfl) (by first | rfl | exact gvE hg rfl)) ?_
    refine OPS.val rfl rfl rfl ((by first | exact Ev.pickOr rfl rfl rfl | exact Ev.pickAnd rfl rfl rfl)) ?_
    refine OPS.nil ?_
    refine WP.cond rfl (fun hc6 => ?_) (fun hc6 => ?_)
    · refine WP.seq ?_
      refine WP.region ?_
      refine OPS.val rfl rfl rfl ((by first | exact Ev.loadO 0 H rfl (agg_run rfl) (size_run rfl) (by first | assumption | rfl) rfl | exact Ev.loadO 1 H rfl (agg_run rfl) (size_run rfl) (by first | assumption | rfl) rfl | exact Ev.loadO 2 H rfl (agg_run rfl) (size_run rfl) (by first | assumption | rfl) rfl | exact Ev.loadO 3 H rfl (agg_run rfl) (size_run rfl) (by first | assumption | rfl) rfl | exact Ev.loadO 4 H rfl (agg_run rfl) (size_run rfl) (by first | assumption | rfl) rfl | exact Ev.loadO 5 H rfl (agg_run rfl) (size_run rfl) (by first | assumption | rfl) rfl | exact Ev.loadO 6 H rfl (agg_run rfl) (size_run rfl) (by first | assumption | rfl) rfl | (change Ev _ _ _ _ (Op.load 30 (Operand.tmp 8)) _; fail))) ?_
      first | refine OPS.store 0 _ rfl rfl rfl (size_run rfl) rfl (cA rfl) rfl rfl H rfl (by simp) ?_ | refine OPS.store 1 _ rfl rfl rfl (size_run rfl) rfl (cA rfl) rfl rfl H rfl (by simp) ?_ | refine OPS.store 2 _ rfl rfl rfl (size_run rfl) rfl (cA rfl) rfl rfl H rfl (by simp) ?_ | refine OPS.store 3 _ rfl rfl rfl (size_run rfl) rfl (cA rfl) rfl rfl H rfl (by simp) ?_ | refine OPS.store 4 _ rfl rfl rfl (size_run rfl) rfl (cA rfl) rfl rfl H rfl (by simp) ?_ | refine OPS.store 5 _ rfl rfl rfl (size_run rfl) rfl (cA rfl) rfl rfl H rfl (by simp) ?_ | refine OPS.store 6 _ rfl rfl rfl (size_run rfl) rfl (cA rfl) rfl rfl H rfl (by simp) ?_ | refine OPS.store 7 _ rfl rfl rfl (size_run rfl) rfl (cA rfl) rfl rfl H rfl (by simp) ?_ | refine OPS.store 8 _ rfl rfl rfl (size_run rfl) rfl (cA rfl) rfl rfl H rfl (by simp) ?_
      clear H; intro w H; try simp only [List.set_cons_zero, List.set_cons_succ, putL, Nat.zero_add] at H
      refine OPS.val rfl rfl rfl (Ev.asB rfl) ?_
      refine OPS.nil ?_
      refine WP.ret ⟨[_, _], ⟨(by first | exact resCellA 0 H rfl (agg_run rfl) (size_run rfl) (by first | assumption | rfl) rfl | exact resCellA 1 H rfl (agg_run rfl) (size_run rfl) (by first | assumption | rfl) rfl | exact resCellA 2 H rfl (agg_run rfl) (size_run rfl) (by first | assumption | rfl) rfl | exact resCellA 3 H rfl (agg_run rfl) (size_run rfl) (by first | assumption | rfl) rfl | exact resCellA 4 H rfl (agg_run rfl) (size_run rfl) (by first | assumption | rfl) rfl | exact resCellA 5 H rfl (agg_run rfl) (size_run rfl) (by first | assumption | rfl) rfl | exact resCellA 6 H rfl (agg_run rfl) (size_run rfl) (by first | assumption | rfl) rfl), rfl, trivial⟩, ?_⟩
      exact ⟨rfl, H.drop (List.nil_sublist _)⟩
    refine WP.skip ?_
    simp at hc6
  refine WP.exit ?_
  refine XB.hit ?_
  refine WP.seq ?_
  refine WP.seq ?_
  simp at hc3
theorem splitOk (n : Int) (hn : 1 ≤ n ∧ n ≤ 256) (El : Option Addr) (l : List Evt) (ce : Nat) (parts : Int) (w0 : World) (hz : RowsAt 9 evC w0 El l) (hl : l.length ≤ 100) :
    Calls Try.prog 6 #[I n, .slice El l.length ce, .int .u64 parts] w0 fun e w' => ∃ gR gM es, e = .returned (.tuple #[.agg #[.pointer (some ⟨gR 0, 0, none⟩), .pointer (some ⟨gR 1, 0, none⟩), .pointer (some ⟨gR 2, 0, none⟩)], .bool true]) ∧ Three w0 w' n gR gM es 3 ∧ Spl n l l.length es ∧ SH w0 [] w' [] := by
  have H := SH.refl w0
  refine Calls.ofWPc Try.func6 rfl Try.results6 Try.ntmps6 rfl ?_
  refine WP.seq ?_
  refine WP.region ?_
  refine OPS.alloc rfl rfl rfl rfl (zero_run rfl) rfl H ?_
  clear H; intro g6 w H
  refine OPS.val rfl rfl rfl (Ev.asB rfl) ?_
  refine OPS.nil ?_
  refine WP.seq ?_
  refine WP.region ?_
  refine OPS.alloc rfl rfl rfl rfl (zero_run rfl) rfl H ?_
  clear H; intro g8 w H
  refine OPS.nil ?_
  refine WP.seq ?_
  refine WP.seq ?_
  refine WP.region ?_
  refine OPS.val rfl rfl rfl (Ev.mvI rfl) ?_
  refine OPS.nil ?_
  refine WP.block ?_
  refine WP.loop [7, 9, 10, 11, 15, 16, 17, 18, 19, 20, 21, 22, 23, 24, 25, 26, 27, 28, 29, 30, 31, 32, 33] (fun k e w' => ∃ (j : Nat) (gR gM : Nat → Nat) (es : Nat → List Evt), j + k = 3 ∧ e 15 = I j ∧ (∀ q, es q = []) ∧ Three w0 w' n gR gM es j ∧ SH w0 [] w' [⟨g8, 30, arr3 gR j⟩, ⟨g6, 30, [.pointer none, .pointer none, .pointer none]⟩]) (3) (⟨0, fun _ => 0, fun _ => 0, fun _ => [], rfl, rfl, fun _ => rfl, ⟨fun q h => absurd h (by omega), fun q p h => absurd h (by omega), fun q h => absurd h (by omega)⟩, H⟩) ?_
  clear H
  rintro k u w ⟨j, gR, gM, es, hk, h15, hes, hT, H⟩
  refine WP.know (t := 15) h15 ?_
  refine WP.seq ?_
  refine WP.region ?_
  refine OPS.val rfl rfl rfl (Ev.lss rfl rfl) ?_
  refine OPS.nil ?_
  refine WP.seq ?_
  refine WP.cond rfl (fun hc3 => ?_) (fun hc3 => ?_)
  · have hlt : j < 3 := by have h := of_decide_eq_true hc3; omega
    refine WP.skip ?_
    refine WP.seq ?_
    refine WP.block ?_
    refine WP.seq ?_
    refine WP.region ?_
    refine OPS.val rfl rfl rfl (Ev.mvI rfl) ?_
    refine OPS.val rfl rfl rfl (Ev.asI rfl) ?_
    refine OPS.nil ?_
    refine WP.seq ?_
    have hsz := H.size
    have hcall := (gossipNew n w).mono (R' := fun e w' => ∃ g m, e = .returned (.tuple #[.pointer (some ⟨g, 0, none⟩), I 0]) ∧ w.heap.size ≤ m ∧ MapAt Try.prog 78 w' m [] ∧ SH w [] w' [⟨g, 61, [I n, .map (some m)]⟩]) (fun e w' h => by
      rcases h with ⟨h, _⟩ | ⟨_, h⟩
      · omega
      · exact h)
    refine WP.region ?_
    refine OPS.val rfl rfl rfl (Ev.mvI rfl) ?_
    refine OPS.call (d := some 20) rfl rfl rfl (EvC.func (fun_run rfl)) (hcall) ?_
    rintro _ w ⟨g, m, rfl, hm, M, Hc⟩
    refine ⟨_, rfl, ?_⟩
    have hT2 := hT.new hsz hm M Hc
    replace H := H.toBelow Hc.below
    have HB := H
    replace H := H.restart (List.Sublist.refl _)
    refine OPS.val rfl rfl rfl (Ev.mvT rfl) ?_
    refine OPS.val rfl rfl rfl (Ev.extract rfl rfl) ?_
    refine OPS.val rfl rfl rfl (Ev.extract rfl rfl) ?_
    refine OPS.val rfl rfl rfl (Ev.asP rfl) ?_
    refine OPS.val rfl rfl rfl (Ev.asI rfl) ?_
    refine OPS.nil ?_
    refine WP.seq ?_
    refine WP.seq ?_
    refine WP.region ?_
    refine OPS.val rfl rfl rfl (Ev.mvP rfl) ?_
    refine OPS.val rfl rfl rfl (Ev.eqlPn Try.runUnderlying29 rfl rfl) ?_
    refine OPS.val rfl rfl rfl (Ev.mvB rfl) ?_
    refine OPS.gval rfl rfl rfl rfl rfl (fun hg => Ev.mvI (by first | rfl | exact gvE hg rfl)) ?_
    refine OPS.gval rfl rfl rfl rfl rfl (fun hg => Ev.neq (by first | rfl | exact gvE hg rfl) (by first | rfl | exact gvE hg rfl)) ?_
    refine OPS.val rfl rfl rfl ((by first | exact Ev.pickOr rfl rfl rfl | exact Ev.pickAnd rfl rfl rfl)) ?_
    refine OPS.nil ?_
    refine WP.cond rfl (fun hc6 => ?_) (fun hc6 => ?_)
    · refine WP.seq ?_
      simp at hc6
    refine WP.skip ?_
    refine WP.region ?_
    refine OPS.val rfl rfl rfl (Ev.mvI rfl) ?_
    refine OPS.val rfl rfl rfl (Ev.mvP rfl) ?_
    refine OPS.val rfl rfl rfl (Ev.indexAddrA (j := j) (arr_run rfl) (size_run rfl) rfl rfl rfl hlt) ?_
    refine OPS.store 0 (0 + j * 1) rfl rfl rfl (size_run rfl) rfl (cP rfl) rfl rfl H rfl (by show 0 + j * 1 + 1 ≤ 3; omega) ?_
    clear H; intro w H
    have H : SH _ _ w [⟨g8, 30, putL (arr3 gR j) (0 + j * 1) [.pointer (some ⟨g, 0, none⟩)]⟩, ⟨g6, 30, [.pointer none, .pointer none, .pointer none]⟩] := H
    rw [show 0 + j * 1 = j by omega, arr3_put gR j g hlt] at H
    have hT3 := hT2.keep HB (by simp) H
    replace H := SH.cont HB H
    refine OPS.nil ?_
    refine WP.region ?_
    refine OPS.val rfl rfl rfl (Ev.add rfl rfl (by unfold fits; omega)) ?_
    refine OPS.val rfl rfl rfl (Ev.mvI rfl) ?_
    refine OPS.nil ?_
    exact ⟨(by repeat (first | exact Agree.refl _ _ | exact Agree.mix _ _ _ | refine Agree.upd rfl ?_ | refine Agree.mix2 rfl ?_)), k - 1, by omega, j + 1, _, _, _, by omega, rfl, (fun q => by by_cases h : q = j <;> simp [h, hes]), hT3, H⟩
  obtain rfl : j = 3 := by have h := of_decide_eq_false hc3; omega
  refine WP.exit ?_
  refine XB.hit ?_
  refine WP.seq ?_
  refine WP.seq ?_
  refine WP.region ?_
  refine OPS.val rfl rfl rfl (Ev.asI rfl) ?_
  refine OPS.nil ?_
  refine WP.block ?_
  refine WP.loop [12, 13, 14, 34, 35, 36, 37, 38, 39, 40, 41, 42, 43, 44, 45, 46, 47, 48, 49, 50, 51, 52, 53, 54, 55, 56, 57, 58, 59, 60, 61, 62, 63, 64, 65, 66] (fun k e w' => ∃ (i : Nat) (es : Nat → List Evt), i + k = l.length ∧ e 12 = I i ∧ Three w0 w' n gR gM es 3 ∧ Spl n l i es ∧ SH w0 [] w' [⟨g8, 30, arr3 gR 3⟩, ⟨g6, 30, [.pointer none, .pointer none, .pointer none]⟩]) (l.length) (⟨0, es, by omega, rfl, hT, (Spl.first n l).congr (fun q _ => hes q), H⟩) ?_
  clear H hT hes
  rintro k u wh ⟨i, es, hk, h12, hT, hS, H⟩
  refine WP.know (t := 12) h12 ?_
  refine WP.seq ?_
  refine WP.seq ?_
  refine WP.region ?_
  refine OPS.val rfl rfl rfl (Ev.mvI rfl) ?_
  refine OPS.val rfl rfl rfl (Ev.mvS rfl) ?_
  refine OPS.val rfl rfl rfl (Ev.len (el_run rfl) rfl) ?_
  refine OPS.val rfl rfl rfl (Ev.lss rfl rfl) ?_
  refine OPS.nil ?_
  refine WP.cond rfl (fun hc11 => ?_) (fun hc11 => ?_)
  · have hlt : i < l.length := by have h := of_decide_eq_true hc11; omega
    obtain ⟨x, hx⟩ : ∃ x, x = l[i] := ⟨_, rfl⟩
    have hxl : x ∈ l := hx ▸ List.getElem_mem hlt
    obtain ⟨bx, ox, rfl, hxc⟩ := hz i hlt
    rw [← hx] at hxc
    have hle := hS.len 0 (by omega)
    have hfr := hT.fr
    refine WP.skip ?_
    refine WP.seq ?_
    refine WP.block ?_
    refine WP.seq ?_
    refine WP.rheldC [13, 14, 40, 41, 42, 43, 44, 45, 46, 47, 48, 49] (fun u w' => u 14 = I (addE n (es 0) x) ∧ Three w0 w' n gR gM (fun p => if p = 0 then addL n (es 0) x else es p) 3 ∧ SH w0 [] w' [⟨g8, 30, arr3 gR 3⟩, ⟨g6, 30, [.pointer none, .pointer none, .pointer none]⟩]) mixed H ?_ ?_
    · clear H; intro w hbw13 H
      refine OPH.take 0 rfl rfl rfl rfl (by kernel_rfl) (by kernel_rfl) (by kernel_rfl) rfl (by first | exact H | exact H.drop (List.sublist_cons_self _ _) | exact H.drop ((List.sublist_cons_self _ _).trans (List.sublist_cons_self _ _)) | exact H.drop ((List.sublist_cons_self _ _).trans ((List.sublist_cons_self _ _).trans (List.sublist_cons_self _ _))) | exact H.drop ((List.sublist_cons_self _ _).trans ((List.sublist_cons_self _ _).trans ((List.sublist_cons_self _ _).trans (List.sublist_cons_self _ _)))) | exact H.drop ((List.sublist_cons_self _ _).trans ((List.sublist_cons_self _ _).trans ((List.sublist_cons_self _ _).trans ((List.sublist_cons_self _ _).trans (List.sublist_cons_self _ _)))))) (fun w H => Ev.indexAddrA (j := 0) (arr_run rfl) (size_run rfl) rfl rfl rfl (by decide)) ?_
      refine OPH.take 1 rfl rfl rfl rfl (by kernel_rfl) (by kernel_rfl) (by kernel_rfl) rfl (by first | exact H | exact H.drop (List.sublist_cons_self _ _) | exact H.drop ((List.sublist_cons_self _ _).trans (List.sublist_cons_self _ _)) | exact H.drop ((List.sublist_cons_self _ _).trans ((List.sublist_cons_self _ _).trans (List.sublist_cons_self _ _))) | exact H.drop ((List.sublist_cons_self _ _).trans ((List.sublist_cons_self _ _).trans ((List.sublist_cons_self _ _).trans (List.sublist_cons_self _ _)))) | exact H.drop ((List.sublist_cons_self _ _).trans ((List.sublist_cons_self _ _).trans ((List.sublist_cons_self _ _).trans ((List.sublist_cons_self _ _).trans (List.sublist_cons_self _ _)))))) (fun w H => Ev.load1 (agg_run rfl) rfl (H.ldL 0 rfl 0 rfl)) ?_
      refine OPH.take 2 rfl rfl rfl rfl (by kernel_rfl) (by kernel_rfl) (by kernel_rfl) rfl (by first | exact H | exact H.drop (List.sublist_cons_self _ _) | exact H.drop ((List.sublist_cons_self _ _).trans (List.sublist_cons_self _ _)) | exact H.drop ((List.sublist_cons_self _ _).trans ((List.sublist_cons_self _ _).trans (List.sublist_cons_self _ _))) | exact H.drop ((List.sublist_cons_self _ _).trans ((List.sublist_cons_self _ _).trans ((List.sublist_cons_self _ _).trans (List.sublist_cons_self _ _)))) | exact H.drop ((List.sublist_cons_self _ _).trans ((List.sublist_cons_self _ _).trans ((List.sublist_cons_self _ _).trans ((List.sublist_cons_self _ _).trans (List.sublist_cons_self _ _)))))) (fun w H => Ev.mvS rfl) ?_
      refine OPH.take 3 rfl rfl rfl rfl (by kernel_rfl) (by kernel_rfl) (by kernel_rfl) rfl (by first | exact H | exact H.drop (List.sublist_cons_self _ _) | exact H.drop ((List.sublist_cons_self _ _).trans (List.sublist_cons_self _ _)) | exact H.drop ((List.sublist_cons_self _ _).trans ((List.sublist_cons_self _ _).trans (List.sublist_cons_self _ _))) | exact H.drop ((List.sublist_cons_self _ _).trans ((List.sublist_cons_self _ _).trans ((List.sublist_cons_self _ _).trans (List.sublist_cons_self _ _)))) | exact H.drop ((List.sublist_cons_self _ _).trans ((List.sublist_cons_self _ _).trans ((List.sublist_cons_self _ _).trans ((List.sublist_cons_self _ _).trans (List.sublist_cons_self _ _)))))) (fun w H => Ev.mvI rfl) ?_
      refine OPH.take 4 rfl rfl rfl rfl (by kernel_rfl) (by kernel_rfl) (by kernel_rfl) rfl (by first | exact H | exact H.drop (List.sublist_cons_self _ _) | exact H.drop ((List.sublist_cons_self _ _).trans (List.sublist_cons_self _ _)) | exact H.drop ((List.sublist_cons_self _ _).trans ((List.sublist_cons_self _ _).trans (List.sublist_cons_self _ _))) | exact H.drop ((List.sublist_cons_self _ _).trans ((List.sublist_cons_self _ _).trans ((List.sublist_cons_self _ _).trans (List.sublist_cons_self _ _)))) | exact H.drop ((List.sublist_cons_self _ _).trans ((List.sublist_cons_self _ _).trans ((List.sublist_cons_self _ _).trans ((List.sublist_cons_self _ _).trans (List.sublist_cons_self _ _)))))) (fun w H => Ev.indexAddr (j := i) (el_run rfl) (size_run rfl) rfl rfl rfl hlt) ?_
      refine OPH.take 5 rfl rfl rfl rfl (by kernel_rfl) (by kernel_rfl) (by kernel_rfl) rfl (by first | exact H | exact H.drop (List.sublist_cons_self _ _) | exact H.drop ((List.sublist_cons_self _ _).trans (List.sublist_cons_self _ _)) | exact H.drop ((List.sublist_cons_self _ _).trans ((List.sublist_cons_self _ _).trans (List.sublist_cons_self _ _))) | exact H.drop ((List.sublist_cons_self _ _).trans ((List.sublist_cons_self _ _).trans ((List.sublist_cons_self _ _).trans (List.sublist_cons_self _ _)))) | exact H.drop ((List.sublist_cons_self _ _).trans ((List.sublist_cons_self _ _).trans ((List.sublist_cons_self _ _).trans ((List.sublist_cons_self _ _).trans (List.sublist_cons_self _ _)))))) (fun w H => Ev.loadN (evC x) (agg_run rfl) (size_run rfl) rfl (cellsAt_sh H hxc)) ?_
      refine OPH.all [6] (by kernel_rfl) (by simp) rfl ?_
      intro i hi; simp only [List.mem_cons, List.not_mem_nil, or_false] at hi
      rcases hi with rfl
      · refine ⟨_, rfl, ?_⟩
        refine OPS.call (d := some 47) rfl rfl rfl (EvC.func (fun_run rfl)) (addR n hn.2 (gR 0) (gM 0) (es 0) x w ((hT.below hbw13).rp 0 (by omega)) (by omega)) ?_
        rintro _ w2 ⟨rfl, Hc, hR2⟩
        refine ⟨_, rfl, ?_⟩
        have hT2 := (hT.below hbw13).set (by omega) Hc hR2
        have H2 := SH.back H Hc (fun g hg => by
          have hg : g = gM 0 := by simpa using hg
          subst hg
          exact ⟨.inl (hfr 0 (by omega)), ((hT.below hbw13).rp 0 (by omega)).mp.notMem H⟩)
        rw [List.nil_append] at H2
        clear H; have H := H2; clear H2
        refine OPS.nil ?_
        refine ⟨(by first | exact H | exact H.drop (List.sublist_cons_self _ _) | exact H.drop ((List.sublist_cons_self _ _).trans (List.sublist_cons_self _ _)) | exact H.drop ((List.sublist_cons_self _ _).trans ((List.sublist_cons_self _ _).trans (List.sublist_cons_self _ _))) | exact H.drop ((List.sublist_cons_self _ _).trans ((List.sublist_cons_self _ _).trans ((List.sublist_cons_self _ _).trans (List.sublist_cons_self _ _)))) | exact H.drop ((List.sublist_cons_self _ _).trans ((List.sublist_cons_self _ _).trans ((List.sublist_cons_self _ _).trans ((List.sublist_cons_self _ _).trans (List.sublist_cons_self _ _)))))), ?_⟩
        refine OPH.take 7 rfl rfl rfl rfl (by kernel_rfl) (by kernel_rfl) (by kernel_rfl) rfl (by first | exact H | exact H.drop (List.sublist_cons_self _ _) | exact H.drop ((List.sublist_cons_self _ _).trans (List.sublist_cons_self _ _)) | exact H.drop ((List.sublist_cons_self _ _).trans ((List.sublist_cons_self _ _).trans (List.sublist_cons_self _ _))) | exact H.drop ((List.sublist_cons_self _ _).trans ((List.sublist_cons_self _ _).trans ((List.sublist_cons_self _ _).trans (List.sublist_cons_self _ _)))) | exact H.drop ((List.sublist_cons_self _ _).trans ((List.sublist_cons_self _ _).trans ((List.sublist_cons_self _ _).trans ((List.sublist_cons_self _ _).trans (List.sublist_cons_self _ _)))))) (fun w H => Ev.mvT rfl) ?_
        refine OPH.take 8 rfl rfl rfl rfl (by kernel_rfl) (by kernel_rfl) (by kernel_rfl) rfl (by first | exact H | exact H.drop (List.sublist_cons_self _ _) | exact H.drop ((List.sublist_cons_self _ _).trans (List.sublist_cons_self _ _)) | exact H.drop ((List.sublist_cons_self _ _).trans ((List.sublist_cons_self _ _).trans (List.sublist_cons_self _ _))) | exact H.drop ((List.sublist_cons_self _ _).trans ((List.sublist_cons_self _ _).trans ((List.sublist_cons_self _ _).trans (List.sublist_cons_self _ _)))) | exact H.drop ((List.sublist_cons_self _ _).trans ((List.sublist_cons_self _ _).trans ((List.sublist_cons_self _ _).trans ((List.sublist_cons_self _ _).trans (List.sublist_cons_self _ _)))))) (fun w H => Ev.extract rfl rfl) ?_
        refine OPH.take 9 rfl rfl rfl rfl (by kernel_rfl) (by kernel_rfl) (by kernel_rfl) rfl (by first | exact H | exact H.drop (List.sublist_cons_self _ _) | exact H.drop ((List.sublist_cons_self _ _).trans (List.sublist_cons_self _ _)) | exact H.drop ((List.sublist_cons_self _ _).trans ((List.sublist_cons_self _ _).trans (List.sublist_cons_self _ _))) | exact H.drop ((List.sublist_cons_self _ _).trans ((List.sublist_cons_self _ _).trans ((List.sublist_cons_self _ _).trans (List.sublist_cons_self _ _)))) | exact H.drop ((List.sublist_cons_self _ _).trans ((List.sublist_cons_self _ _).trans ((List.sublist_cons_self _ _).trans ((List.sublist_cons_self _ _).trans (List.sublist_cons_self _ _)))))) (fun w H => Ev.extract rfl rfl) ?_
        refine OPH.take 10 rfl rfl rfl rfl (by kernel_rfl) (by kernel_rfl) (by kernel_rfl) rfl (by first | exact H | exact H.drop (List.sublist_cons_self _ _) | exact H.drop ((List.sublist_cons_self _ _).trans (List.sublist_cons_self _ _)) | exact H.drop ((List.sublist_cons_self _ _).trans ((List.sublist_cons_self _ _).trans (List.sublist_cons_self _ _))) | exact H.drop ((List.sublist_cons_self _ _).trans ((List.sublist_cons_self _ _).trans ((List.sublist_cons_self _ _).trans (List.sublist_cons_self _ _)))) | exact H.drop ((List.sublist_cons_self _ _).trans ((List.sublist_cons_self _ _).trans ((List.sublist_cons_self _ _).trans ((List.sublist_cons_self _ _).trans (List.sublist_cons_self _ _)))))) (fun w H => Ev.asB rfl) ?_
        refine OPH.take 11 rfl rfl rfl rfl (by kernel_rfl) (by kernel_rfl) (by kernel_rfl) rfl (by first | exact H | exact H.drop (List.sublist_cons_self _ _) | exact H.drop ((List.sublist_cons_self _ _).trans (List.sublist_cons_self _ _)) | exact H.drop ((List.sublist_cons_self _ _).trans ((List.sublist_cons_self _ _).trans (List.sublist_cons_self _ _))) | exact H.drop ((List.sublist_cons_self _ _).trans ((List.sublist_cons_self _ _).trans ((List.sublist_cons_self _ _).trans (List.sublist_cons_self _ _)))) | exact H.drop ((List.sublist_cons_self _ _).trans ((List.sublist_cons_self _ _).trans ((List.sublist_cons_self _ _).trans ((List.sublist_cons_self _ _).trans (List.sublist_cons_self _ _)))))) (fun w H => Ev.asI rfl) ?_
        refine OPH.done (by kernel_rfl) ?_
        exact ⟨(by repeat (first | exact Agree.refl _ _ | exact Agree.mix _ _ _ | refine Agree.upd rfl ?_ | refine Agree.mix2 rfl ?_)), rfl, hT2, H⟩
    clear H
    rintro u2 w ⟨h14, hT2, H⟩
    refine WP.know (t := 14) h14 ?_
    refine WP.seq ?_
    refine WP.region ?_
    refine OPS.val rfl rfl rfl (Ev.mvI rfl) ?_
    refine OPS.val rfl rfl rfl (Ev.eql rfl rfl) ?_
    refine OPS.nil ?_
    refine WP.cond rfl (fun hc14 => ?_) (fun hc14 => ?_)
    · have h0 : addE n (es 0) x = 0 := by simpa using hc14
      obtain ⟨d, hd⟩ : ∃ d : Int, d = parts / 2 ^ (IntKind.u64.wrap ((i : Int) % 60)).toNat := ⟨_, rfl⟩
      obtain ⟨q, hq, hqd⟩ : ∃ q : Nat, (q = 1 ∨ q = 2) ∧ (1 : Int) + d % 2 = q := by
        rcases (show d % 2 = 0 ∨ d % 2 = 1 by omega) with h | h
        · exact ⟨1, .inl rfl, by omega⟩
        · exact ⟨2, .inr rfl, by omega⟩
      have hq3 : q < 3 := by omega
      obtain ⟨hS2, h0q⟩ := hS.step hxl h0 q hq
      have hlq := hS.len q hq3
      have hTb := fun {w' : World} (hb : Below w.heap.size w w') => hT2.below hb
      have hq0 : ¬ q = 0 := by omega
      refine WP.rtail 14 mixed (by kernel_rfl) H ?_
      clear H; intro w hbw15 H
      refine OPS.val rfl rfl rfl (Ev.mvI rfl) ?_
      refine OPS.val rfl rfl rfl (Ev.mvI rfl) ?_
      refine OPS.val rfl rfl rfl (Ev.rem rfl rfl (by omega) (by omega)) ?_
      refine OPS.val rfl rfl rfl (Ev.conv (ik_run rfl) (ik_run rfl) rfl) ?_
      refine OPS.val (v := .int .u64 d) rfl rfl rfl (by rw [hd]; exact Ev.shrU rfl rfl (by rw [IntKind.wrap_u64]; omega) (by rw [IntKind.wrap_u64]; show _ ≤ ((64 : Nat) : Int); omega)) ?_
      refine OPS.val rfl rfl rfl (Ev.and1U rfl rfl) ?_
      refine OPS.val rfl rfl rfl ((by first | exact Ev.convI (ik_run rfl) (ik_run rfl) rfl (by unfold fits; omega) | exact Ev.conv (ik_run rfl) (ik_run rfl) rfl)) ?_
      refine OPS.val rfl rfl rfl (Ev.add rfl rfl (by unfold fits; omega)) ?_
      refine OPS.val rfl rfl rfl (Ev.indexAddrA (j := q) (arr_run rfl) (size_run rfl) rfl rfl hqd hq3) ?_
      refine OPS.val rfl rfl rfl (Ev.load1 (agg_run rfl) rfl (H.ldL 0 rfl (0 + q * 1) (by rw [show 0 + q * 1 = q by omega]; exact arr3_get gR q hq3))) ?_
      refine OPS.val rfl rfl rfl (Ev.mvS rfl) ?_
      refine OPS.val rfl rfl rfl (Ev.mvI rfl) ?_
      refine OPS.val rfl rfl rfl (Ev.indexAddr (j := i) (el_run rfl) (size_run rfl) rfl rfl rfl hlt) ?_
      refine OPS.val rfl rfl rfl (Ev.loadN (evC x) (agg_run rfl) (size_run rfl) rfl (cellsAt_sh H hxc)) ?_
      refine OPS.nil_s ?_
      have hT3 := hTb hbw15
      have hRq := hT3.rp q hq3
      simp only [if_neg hq0] at hRq
      refine OPS.call (d := some 66) rfl rfl rfl (EvC.func (fun_run rfl)) (addR n hn.2 (gR q) (gM q) (es q) x w hRq (by omega)) ?_
      rintro _ w ⟨rfl, Hc, hR2⟩
      refine ⟨_, rfl, ?_⟩
      have hT4 := hT3.set hq3 Hc hR2
      have H2 := SH.back H Hc (fun g hg => by
        have hg : g = gM q := by simpa using hg
        subst hg
        exact ⟨.inl (hfr q hq3), hRq.mp.notMem H⟩)
      rw [List.nil_append] at H2
      clear H; have H := H2; clear H2
      refine OPS.nil ?_
      refine WP.region ?_
      refine OPS.val rfl rfl rfl (Ev.mvI rfl) ?_
      refine OPS.val rfl rfl rfl (Ev.add rfl rfl (by unfold fits; omega)) ?_
      refine OPS.val rfl rfl rfl (Ev.asI rfl) ?_
      refine OPS.nil ?_
      first
        | exact ⟨(by repeat (first | exact Agree.refl _ _ | exact Agree.mix _ _ _ | refine Agree.upd rfl ?_ | refine Agree.mix2 rfl ?_)), k - 1, by omega, i + 1, _, by omega, rfl, hT4, hS2, H⟩
        | exact ⟨(by repeat (first | exact Agree.refl _ _ | exact Agree.mix _ _ _ | refine Agree.upd rfl ?_ | refine Agree.mix2 rfl ?_)), k - 1, by omega, i + 1, _, by omega, rfl, hT2, hS.stay.congr (fun q _ => by by_cases h : q = 0 <;> simp [h, hk0]), H⟩
    have h0 : addE n (es 0) x ≠ 0 := by simpa using hc14
    have hk0 : addL n (es 0) x = es 0 := if_neg fun h => h0 h.1
    refine WP.skip ?_
    refine WP.region ?_
    refine OPS.val rfl rfl rfl (Ev.mvI rfl) ?_
    refine OPS.val rfl rfl rfl (Ev.add rfl rfl (by unfold fits; omega)) ?_
    refine OPS.val rfl rfl rfl (Ev.asI rfl) ?_
    refine OPS.nil ?_
    first
      | exact ⟨(by repeat (first | exact Agree.refl _ _ | exact Agree.mix _ _ _ | refine Agree.upd rfl ?_ | refine Agree.mix2 rfl ?_)), k - 1, by omega, i + 1, _, by omega, rfl, hT4, hS2, H⟩
      | exact ⟨(by repeat (first | exact Agree.refl _ _ | exact Agree.mix _ _ _ | refine Agree.upd rfl ?_ | refine Agree.mix2 rfl ?_)), k - 1, by omega, i + 1, _, by omega, rfl, hT2, hS.stay.congr (fun q _ => by by_cases h : q = 0 <;> simp [h, hk0]), H⟩
  refine WP.exit ?_
  refine XB.hit ?_
  refine WP.seq ?_
  have hi : i = l.length := by have h := of_decide_eq_false hc11; omega
  subst hi
  have HB := H
  replace H := H.restart (List.Sublist.refl _)
  refine WP.region ?_
  refine OPS.val rfl rfl rfl ((by first | exact Ev.loadO 0 H rfl (agg_run rfl) (size_run rfl) (by first | assumption | rfl) rfl | exact Ev.loadO 1 H rfl (agg_run rfl) (size_run rfl) (by first | assumption | rfl) rfl | exact Ev.loadO 2 H rfl (agg_run rfl) (size_run rfl) (by first | assumption | rfl) rfl | exact Ev.loadO 3 H rfl (agg_run rfl) (size_run rfl) (by first | assumption | rfl) rfl | exact Ev.loadO 4 H rfl (agg_run rfl) (size_run rfl) (by first | assumption | rfl) rfl | exact Ev.loadO 5 H rfl (agg_run rfl) (size_run rfl) (by first | assumption | rfl) rfl | exact Ev.loadO 6 H rfl (agg_run rfl) (size_run rfl) (by first | assumption | rfl) rfl | (change Ev _ _ _ _ (Op.load 30 (Operand.tmp 8)) _; fail))) ?_
  first | refine OPS.store 0 _ rfl rfl rfl (size_run rfl) rfl (cA rfl) rfl rfl H rfl (by simp) ?_ | refine OPS.store 1 _ rfl rfl rfl (size_run rfl) rfl (cA rfl) rfl rfl H rfl (by simp) ?_ | refine OPS.store 2 _ rfl rfl rfl (size_run rfl) rfl (cA rfl) rfl rfl H rfl (by simp) ?_ | refine OPS.store 3 _ rfl rfl rfl (size_run rfl) rfl (cA rfl) rfl rfl H rfl (by simp) ?_ | refine OPS.store 4 _ rfl rfl rfl (size_run rfl) rfl (cA rfl) rfl rfl H rfl (by simp) ?_ | refine OPS.store 5 _ rfl rfl rfl (size_run rfl) rfl (cA rfl) rfl rfl H rfl (by simp) ?_ | refine OPS.store 6 _ rfl rfl rfl (size_run rfl) rfl (cA rfl) rfl rfl H rfl (by simp) ?_ | refine OPS.store 7 _ rfl rfl rfl (size_run rfl) rfl (cA rfl) rfl rfl H rfl (by simp) ?_ | refine OPS.store 8 _ rfl rfl rfl (size_run rfl) rfl (cA rfl) rfl rfl H rfl (by simp) ?_
  clear H; intro w H; try simp only [List.set_cons_zero, List.set_cons_succ, putL, Nat.zero_add] at H
  refine OPS.val rfl rfl rfl (Ev.asB rfl) ?_
  refine OPS.nil ?_
  refine WP.ret ⟨[_, _], ⟨(by first | exact resCellA 0 H rfl (agg_run rfl) (size_run rfl) (by first | assumption | rfl) rfl | exact resCellA 1 H rfl (agg_run rfl) (size_run rfl) (by first | assumption | rfl) rfl | exact resCellA 2 H rfl (agg_run rfl) (size_run rfl) (by first | assumption | rfl) rfl | exact resCellA 3 H rfl (agg_run rfl) (size_run rfl) (by first | assumption | rfl) rfl | exact resCellA 4 H rfl (agg_run rfl) (size_run rfl) (by first | assumption | rfl) rfl | exact resCellA 5 H rfl (agg_run rfl) (size_run rfl) (by first | assumption | rfl) rfl | exact resCellA 6 H rfl (agg_run rfl) (size_run rfl) (by first | assumption | rfl) rfl), rfl, trivial⟩, ?_⟩
  exact ⟨gR, gM, es, rfl, hT.keep HB (by simp) H, hS, (SH.cont HB H).drop (List.nil_sublist _)⟩
end Go.Proofs.Ytchjbjplddhknaa
