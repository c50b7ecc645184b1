/-
  Walks: lists compared; a sorted list without its repetitions.
-/
import Derived.Test.YtkfklebaeifdnaaF11
import Derived.Test.YtkfklebaeifdnaaPtr
import Derived.Test.YtkfklebaeifdnaaLists
set_option linter.all false
namespace Go.Proofs.Ytkfklebaeifdnaa
open Go Go.W Go.RowKit

abbrev Wi := Int × Int
def wiCells (x : Wi) : List Value := [I x.1, I x.2]
theorem wiCells_len (x : Wi) : (wiCells x).length = 2 := rfl
theorem eqG26 : Try.prog.eqGuardType Try.prog.depth 26 = false := by kernel_rfl
theorem eqS26 (a b c d : Int) : ∀ w, (Op.equal 26 (.agg #[I a, I b]) (.agg #[I c, I d])).run Try.prog w = .ok (decide (a = c) && decide (b = d)) w := by
  intro w
  have hs : Try.prog.stoodInHeld 26 = false := by kernel_rfl
  unfold Op.equal Op.maxDepth
  rw [Op.equalIn]
  simp only [Sem.run_bind, Try.runUnderlying26, Result.andThen_ok, prog_run, hs]
  simp [part, Try.isAgg3, Sem.run_bind, Sem.run_pure, intEq]
  by_cases h1 : a = c <;> by_cases h2 : b = d <;> simp [h1, h2]
set_option maxHeartbeats 1000000 in
theorem rSameW (A B : Option Addr) (a b : List Wi) (c1 c2 : Nat) (w0 : World) (ha : RowsAt 2 wiCells w0 A a) (hb : RowsAt 2 wiCells w0 B b) (hl : a.length ≤ 100000) (hl2 : b.length ≤ 100000) :
    Calls Try.prog 22 #[.slice A a.length c1, .slice B b.length c2] w0 fun e w' => e = .returned (.bool (decide (a = b))) ∧ Below w0.heap.size w0 w' := by
  have H := SH.refl w0
  refine Calls.ofWP Try.func22 rfl Try.results22 Try.ntmps22 rfl ?_
  refine WP.seq ?_
  refine WP.region ?_
  refine OPS.val rfl rfl rfl (Ev.asB rfl) ?_
  refine OPS.nil ?_
  refine WP.seq ?_
  refine WP.seq ?_
  refine WP.region ?_
  refine OPS.val rfl rfl rfl (Ev.mvS rfl) ?_
  refine OPS.val rfl rfl rfl (Ev.len (el_run rfl) rfl) ?_
  refine OPS.val rfl rfl rfl (Ev.mvS rfl) ?_
  refine OPS.val rfl rfl rfl (Ev.len (el_run rfl) rfl) ?_
  refine OPS.val rfl rfl rfl (Ev.neq rfl rfl) ?_
  refine OPS.nil ?_
  refine WP.cond rfl (fun hc1 => ?_) (fun hc1 => ?_)
  · refine WP.seq ?_
    refine WP.region ?_
    refine OPS.val rfl rfl rfl (Ev.asB rfl) ?_
    refine OPS.nil ?_
    refine WP.ret ⟨_, rfl, ?_⟩
    have h : a.length ≠ b.length := by simp at hc1; omega
    exact ⟨ret_b rfl (decide_eq_false (fun e => h (by rw [e]))).symm, H.below⟩
  have h : a.length = b.length := by simp at hc1; omega
  refine WP.skip ?_
  refine WP.seq ?_
  refine WP.seq ?_
  refine WP.region ?_
  refine OPS.val rfl rfl rfl (Ev.asI rfl) ?_
  refine OPS.nil ?_
  refine WP.block ?_
  refine WP.loop [4, 5, 11, 12, 13, 14, 15, 16, 17, 18, 19, 20, 21, 22, 23, 24, 25] (fun k e w' => ∃ (j : Nat), j + k = a.length ∧ e 5 = I j ∧ (∀ i (h1 : i < a.length) (h2 : i < b.length), i < j → a[i] = b[i]) ∧ SH w0 [] w' []) (a.length) (⟨0, by omega, rfl, fun _ _ _ h => absurd h (by omega), H⟩) ?_
  clear H
  rintro k u w ⟨j, hk, h5, hall, H⟩
  refine WP.know (t := 5) h5 ?_
  refine WP.seq ?_
  refine WP.seq ?_
  refine WP.region ?_
  refine OPS.val rfl rfl rfl (Ev.mvI rfl) ?_
  refine OPS.val rfl rfl rfl (Ev.mvS rfl) ?_
  refine OPS.val rfl rfl rfl (Ev.len (el_run rfl) rfl) ?_
  refine OPS.val rfl rfl rfl (Ev.lss rfl rfl) ?_
  refine OPS.nil ?_
  refine WP.cond rfl (fun hc4 => ?_) (fun hc4 => ?_)
  · have hlt : j < a.length := by simpa using hc4
    have hlt2 : j < b.length := by omega
    obtain ⟨b1, o1, rfl, hx⟩ := ha j hlt
    obtain ⟨b2, o2, rfl, hy⟩ := hb j hlt2
    obtain ⟨x, hxe⟩ : ∃ x, x = a[j] := ⟨_, rfl⟩
    obtain ⟨y, hye⟩ : ∃ y, y = b[j] := ⟨_, rfl⟩
    rw [← hxe] at hx
    rw [← hye] at hy
    refine WP.skip ?_
    refine WP.seq ?_
    refine WP.block ?_
    refine WP.seq ?_
    refine WP.rstill mixed (by kernel_rfl) H ?_
    clear H; intro w hbw6 H
    refine OPS.val rfl rfl rfl (Ev.mvS rfl) ?_
    refine OPS.val rfl rfl rfl (Ev.mvI rfl) ?_
    refine OPS.val rfl rfl rfl ((by first | exact Ev.indexAddr1 (el_run rfl) (size_run rfl) rfl rfl rfl (by omega) | exact Ev.indexAddr (el_run rfl) (size_run rfl) rfl rfl rfl (by omega))) ?_
    refine OPS.val rfl rfl rfl ((by first | exact Ev.loadO 0 H rfl (agg_run rfl) (size_run rfl) (by first | assumption | rfl) rfl | exact Ev.loadO 1 H rfl (agg_run rfl) (size_run rfl) (by first | assumption | rfl) rfl | exact Ev.loadO 2 H rfl (agg_run rfl) (size_run rfl) (by first | assumption | rfl) rfl | exact Ev.loadO 3 H rfl (agg_run rfl) (size_run rfl) (by first | assumption | rfl) rfl | exact Ev.loadO 4 H rfl (agg_run rfl) (size_run rfl) (by first | assumption | rfl) rfl | exact Ev.loadO 5 H rfl (agg_run rfl) (size_run rfl) (by first | assumption | rfl) rfl | exact Ev.loadO 6 H rfl (agg_run rfl) (size_run rfl) (by first | assumption | rfl) rfl | exact Ev.loadN [_, _] (agg_run rfl) (size_run rfl) rfl ⟨H.ldL 0 rfl _ rfl, H.ldL 0 rfl _ rfl, trivial⟩ | exact Ev.loadN [_, _] (agg_run rfl) (size_run rfl) rfl ⟨H.ldL 1 rfl _ rfl, H.ldL 1 rfl _ rfl, trivial⟩ | exact Ev.loadN [_, _] (agg_run rfl) (size_run rfl) rfl ⟨H.ldL 2 rfl _ rfl, H.ldL 2 rfl _ rfl, trivial⟩ | exact Ev.loadN [_, _] (agg_run rfl) (size_run rfl) rfl ⟨H.ldL 3 rfl _ rfl, H.ldL 3 rfl _ rfl, trivial⟩ | exact Ev.loadN [_, _] (agg_run rfl) (size_run rfl) rfl ⟨H.ldL 4 rfl _ rfl, H.ldL 4 rfl _ rfl, trivial⟩ | (change Ev _ _ _ _ (Op.load 26 (Operand.tmp 19)) _; exact Ev.loadN (wiCells x) (agg_run rfl) (size_run rfl) rfl (cellsAt_sh H hx)))) ?_
    refine OPS.val rfl rfl rfl (Ev.mvS rfl) ?_
    refine OPS.val rfl rfl rfl (Ev.mvI rfl) ?_
    refine OPS.val rfl rfl rfl ((by first | exact Ev.indexAddr1 (el_run rfl) (size_run rfl) rfl rfl rfl (by omega) | exact Ev.indexAddr (el_run rfl) (size_run rfl) rfl rfl rfl (by omega))) ?_
    refine OPS.val rfl rfl rfl ((by first | exact Ev.loadO 0 H rfl (agg_run rfl) (size_run rfl) (by first | assumption | rfl) rfl | exact Ev.loadO 1 H rfl (agg_run rfl) (size_run rfl) (by first | assumption | rfl) rfl | exact Ev.loadO 2 H rfl (agg_run rfl) (size_run rfl) (by first | assumption | rfl) rfl | exact Ev.loadO 3 H rfl (agg_run rfl) (size_run rfl) (by first | assumption | rfl) rfl | exact Ev.loadO 4 H rfl (agg_run rfl) (size_run rfl) (by first | assumption | rfl) rfl | exact Ev.loadO 5 H rfl (agg_run rfl) (size_run rfl) (by first | assumption | rfl) rfl | exact Ev.loadO 6 H rfl (agg_run rfl) (size_run rfl) (by first | assumption | rfl) rfl | exact Ev.loadN [_, _] (agg_run rfl) (size_run rfl) rfl ⟨H.ldL 0 rfl _ rfl, H.ldL 0 rfl _ rfl, trivial⟩ | exact Ev.loadN [_, _] (agg_run rfl) (size_run rfl) rfl ⟨H.ldL 1 rfl _ rfl, H.ldL 1 rfl _ rfl, trivial⟩ | exact Ev.loadN [_, _] (agg_run rfl) (size_run rfl) rfl ⟨H.ldL 2 rfl _ rfl, H.ldL 2 rfl _ rfl, trivial⟩ | exact Ev.loadN [_, _] (agg_run rfl) (size_run rfl) rfl ⟨H.ldL 3 rfl _ rfl, H.ldL 3 rfl _ rfl, trivial⟩ | exact Ev.loadN [_, _] (agg_run rfl) (size_run rfl) rfl ⟨H.ldL 4 rfl _ rfl, H.ldL 4 rfl _ rfl, trivial⟩ | (change Ev _ _ _ _ (Op.load 26 (Operand.tmp 23)) _; exact Ev.loadN (wiCells y) (agg_run rfl) (size_run rfl) rfl (cellsAt_sh H hy)))) ?_
    refine OPS.val rfl rfl rfl (Ev.neqA eqG26 (eqS26 _ _ _ _) rfl rfl) ?_
    refine OPS.nil_s ?_
    refine WP.cond rfl (fun hc6 => ?_) (fun hc6 => ?_)
    · refine WP.seq ?_
      refine WP.region ?_
      refine OPS.val rfl rfl rfl (Ev.asB rfl) ?_
      refine OPS.nil ?_
      refine WP.ret ⟨_, rfl, ?_⟩
      have hne : x ≠ y := fun e => by simp [e] at hc6
      exact ⟨ret_b rfl (decide_eq_false (fun e => hne (by rw [hxe, hye]; simp only [e]))).symm, H.below⟩
    have heq : x = y := by
      obtain ⟨x1, x2⟩ := x
      obtain ⟨y1, y2⟩ := y
      simp at hc6
      rw [hc6.1, hc6.2]
    refine WP.skip ?_
    refine WP.region ?_
    refine OPS.val rfl rfl rfl (Ev.mvI rfl) ?_
    refine OPS.val rfl rfl rfl (Ev.add rfl rfl (by unfold fits; omega)) ?_
    refine OPS.val rfl rfl rfl (Ev.asI rfl) ?_
    refine OPS.nil ?_
    exact ⟨(by repeat (first | exact Agree.refl _ _ | exact Agree.mix _ _ _ | refine Agree.upd rfl ?_ | refine Agree.mix2 rfl ?_)), k - 1, by omega, j + 1, by omega, rfl, (fun i h1 h2 h3 => by
      rcases Nat.lt_or_eq_of_le (Nat.le_of_lt_succ h3) with h | rfl
      · exact hall i h1 h2 h
      · rw [← hxe, ← hye]; exact heq), H⟩
  refine WP.exit ?_
  refine XB.hit ?_
  refine WP.seq ?_
  refine WP.region ?_
  refine OPS.val rfl rfl rfl (Ev.asB rfl) ?_
  refine OPS.nil ?_
  refine WP.ret ⟨_, rfl, ?_⟩
  have hj : j = a.length := by simp at hc4; omega
  exact ⟨ret_b rfl (decide_eq_true (List.ext_getElem h fun i h1 h2 => hall i h1 h2 (by omega))).symm, H.below⟩
set_option maxHeartbeats 1000000 in
theorem slEqual (A B : Option Addr) (a b : List Int) (c1 c2 : Nat) (w0 : World) (ha : IntsAt w0 A a) (hb : IntsAt w0 B b) (hl : a.length ≤ 1000) (hl2 : b.length ≤ 1000) :
    Calls Try.prog 43 #[.slice A a.length c1, .slice B b.length c2] w0 fun e w' => e = .returned (.bool (decide (a = b))) ∧ Below w0.heap.size w0 w' := by
  have H := SH.refl w0
  refine Calls.ofWP Try.func43 rfl Try.results43 Try.ntmps43 rfl ?_
  refine WP.seq ?_
  refine WP.region ?_
  refine OPS.val rfl rfl rfl (Ev.asB rfl) ?_
  refine OPS.nil ?_
  refine WP.seq ?_
  refine WP.seq ?_
  refine WP.region ?_
  refine OPS.val rfl rfl rfl (Ev.mvS rfl) ?_
  refine OPS.val rfl rfl rfl (Ev.len (el_run rfl) rfl) ?_
  refine OPS.val rfl rfl rfl (Ev.mvS rfl) ?_
  refine OPS.val rfl rfl rfl (Ev.len (el_run rfl) rfl) ?_
  refine OPS.val rfl rfl rfl (Ev.neq rfl rfl) ?_
  refine OPS.nil ?_
  refine WP.cond rfl (fun hc1 => ?_) (fun hc1 => ?_)
  · refine WP.seq ?_
    refine WP.region ?_
    refine OPS.val rfl rfl rfl (Ev.asB rfl) ?_
    refine OPS.nil ?_
    refine WP.ret ⟨_, rfl, ?_⟩
    have h : a.length ≠ b.length := by simp at hc1; omega
    exact ⟨ret_b rfl (decide_eq_false (fun e => h (by rw [e]))).symm, H.below⟩
  have h : a.length = b.length := by simp at hc1; omega
  refine WP.skip ?_
  refine WP.seq ?_
  refine WP.seq ?_
  refine WP.region ?_
  refine OPS.val rfl rfl rfl (Ev.mvS rfl) ?_
  refine OPS.val rfl rfl rfl (Ev.len (el_run rfl) rfl) ?_
  refine OPS.val rfl rfl rfl (Ev.mvI rfl) ?_
  refine OPS.nil ?_
  refine WP.block ?_
  refine WP.loop [4, 5, 13, 14, 15, 16, 17, 18, 19, 20, 21, 22, 23, 24, 25] (fun k e w' => ∃ (j : Nat), j + k = a.length ∧ e 13 = I j ∧ (∀ i (h1 : i < a.length) (h2 : i < b.length), i < j → a[i] = b[i]) ∧ SH w0 [] w' []) (a.length) (⟨0, by omega, rfl, fun _ _ _ h => absurd h (by omega), H⟩) ?_
  clear H
  rintro k u w ⟨j, hk, h13, hall, H⟩
  refine WP.know (t := 13) h13 ?_
  refine WP.seq ?_
  refine WP.region ?_
  refine OPS.val rfl rfl rfl (Ev.lss rfl rfl) ?_
  refine OPS.nil ?_
  refine WP.seq ?_
  refine WP.cond rfl (fun hc4 => ?_) (fun hc4 => ?_)
  · have hlt : j < a.length := by simpa using hc4
    have hlt2 : j < b.length := by omega
    obtain ⟨b1, o1, rfl, hx⟩ := ha j hlt
    obtain ⟨b2, o2, rfl, hy⟩ := hb j hlt2
    refine WP.skip ?_
    refine WP.seq ?_
    refine WP.block ?_
    refine WP.seq ?_
    refine WP.region ?_
    refine OPS.val rfl rfl rfl (Ev.mvI rfl) ?_
    refine OPS.val rfl rfl rfl (Ev.asI rfl) ?_
    refine OPS.nil ?_
    refine WP.seq ?_
    refine WP.rstill mixed (by kernel_rfl) H ?_
    clear H; intro w hbw6 H
    refine OPS.val rfl rfl rfl (Ev.mvS rfl) ?_
    refine OPS.val rfl rfl rfl (Ev.mvI rfl) ?_
    refine OPS.val rfl rfl rfl ((by first | exact Ev.indexAddr1 (el_run rfl) (size_run rfl) rfl rfl rfl (by omega) | exact Ev.indexAddr (el_run rfl) (size_run rfl) rfl rfl rfl (by omega))) ?_
    refine OPS.val rfl rfl rfl (Ev.load1 (agg_run rfl) rfl (by first | exact H.ldL 0 rfl _ rfl | exact H.ldL 1 rfl _ rfl | exact H.ldL 2 rfl _ rfl | exact H.ldL 3 rfl _ rfl | exact H.ldL 4 rfl _ rfl | exact H.ldL 5 rfl _ rfl | exact H.ldL 6 rfl _ rfl | exact H.ldL 7 rfl _ rfl | exact H.ld0 (by assumption) | assumption | exact H.ldS (by assumption) (by assumption))) ?_
    refine OPS.val rfl rfl rfl (Ev.mvS rfl) ?_
    refine OPS.val rfl rfl rfl (Ev.mvI rfl) ?_
    refine OPS.val rfl rfl rfl ((by first | exact Ev.indexAddr1 (el_run rfl) (size_run rfl) rfl rfl rfl (by omega) | exact Ev.indexAddr (el_run rfl) (size_run rfl) rfl rfl rfl (by omega))) ?_
    refine OPS.val rfl rfl rfl (Ev.load1 (agg_run rfl) rfl (by first | exact H.ldL 0 rfl _ rfl | exact H.ldL 1 rfl _ rfl | exact H.ldL 2 rfl _ rfl | exact H.ldL 3 rfl _ rfl | exact H.ldL 4 rfl _ rfl | exact H.ldL 5 rfl _ rfl | exact H.ldL 6 rfl _ rfl | exact H.ldL 7 rfl _ rfl | exact H.ld0 (by assumption) | assumption | exact H.ldS (by assumption) (by assumption))) ?_
    refine OPS.val rfl rfl rfl (Ev.neq rfl rfl) ?_
    refine OPS.nil_s ?_
    refine WP.cond rfl (fun hc6 => ?_) (fun hc6 => ?_)
    · refine WP.seq ?_
      refine WP.region ?_
      refine OPS.val rfl rfl rfl (Ev.asB rfl) ?_
      refine OPS.nil ?_
      refine WP.ret ⟨_, rfl, ?_⟩
      have hne : a[j] ≠ b[j] := by simpa using hc6
      exact ⟨ret_b rfl (decide_eq_false (fun e => hne (by simp only [e]))).symm, H.below⟩
    have heq : a[j] = b[j] := by simpa using hc6
    refine WP.skip ?_
    refine WP.region ?_
    refine OPS.val rfl rfl rfl (Ev.add rfl rfl (by unfold fits; omega)) ?_
    refine OPS.val rfl rfl rfl (Ev.mvI rfl) ?_
    refine OPS.nil ?_
    exact ⟨(by repeat (first | exact Agree.refl _ _ | exact Agree.mix _ _ _ | refine Agree.upd rfl ?_ | refine Agree.mix2 rfl ?_)), k - 1, by omega, j + 1, by omega, rfl, (fun i h1 h2 h3 => by
      rcases Nat.lt_or_eq_of_le (Nat.le_of_lt_succ h3) with h | rfl
      · exact hall i h1 h2 h
      · exact heq), H⟩
  refine WP.exit ?_
  refine XB.hit ?_
  refine WP.seq ?_
  refine WP.region ?_
  refine OPS.val rfl rfl rfl (Ev.asB rfl) ?_
  refine OPS.nil ?_
  refine WP.ret ⟨_, rfl, ?_⟩
  have hj : j = a.length := by simp at hc4; omega
  exact ⟨ret_b rfl (decide_eq_true (List.ext_getElem h fun i h1 h2 => hall i h1 h2 (by omega))).symm, H.below⟩
def differB (fs : List Fen) (a b : Int) : Bool := fs.any fun f => activeB f a != activeB f b
set_option maxHeartbeats 1000000 in
theorem rDiffer (A : Option Addr) (fs : List Fen) (cap : Nat) (a b : Int) (w0 : World) (hz : FensAt w0 A fs) (hl : fs.length ≤ 1000) :
    Calls Try.prog 44 #[.slice A fs.length cap, I a, I b] w0 fun e w' => e = .returned (.bool (differB fs a b)) ∧ Below w0.heap.size w0 w' := by
  have H := SH.refl w0
  refine Calls.ofWP Try.func44 rfl Try.results44 Try.ntmps44 rfl ?_
  refine WP.seq ?_
  refine WP.region ?_
  refine OPS.val rfl rfl rfl (Ev.asB rfl) ?_
  refine OPS.nil ?_
  refine WP.seq ?_
  refine WP.seq ?_
  refine WP.region ?_
  refine OPS.val rfl rfl rfl (Ev.asI rfl) ?_
  refine OPS.nil ?_
  refine WP.block ?_
  refine WP.loop [6, 7, 8, 9, 10, 11, 12, 13, 14, 15, 16, 17, 18, 19, 20, 21, 22, 23, 24, 25, 26] (fun k e w' => ∃ (j : Nat), j + k = fs.length ∧ e 7 = I j ∧ (∀ f ∈ fs.take j, activeB f a = activeB f b) ∧ SH w0 [] w' []) (fs.length) (⟨0, by omega, rfl, by simp, H⟩) ?_
  clear H
  rintro k u w ⟨j, hk, h7, hall, H⟩
  refine WP.know (t := 7) h7 ?_
  refine WP.seq ?_
  refine WP.seq ?_
  refine WP.region ?_
  refine OPS.val rfl rfl rfl (Ev.mvI rfl) ?_
  refine OPS.val rfl rfl rfl (Ev.mvS rfl) ?_
  refine OPS.val rfl rfl rfl (Ev.len (el_run rfl) rfl) ?_
  refine OPS.val rfl rfl rfl (Ev.lss rfl rfl) ?_
  refine OPS.nil ?_
  refine WP.cond rfl (fun hc2 => ?_) (fun hc2 => ?_)
  · have hlt : j < fs.length := by simpa using hc2
    obtain ⟨b1, o1, rfl, hcx⟩ := hz.rows j hlt
    have htk := List.take_succ_eq_append_getElem hlt
    have hmem := List.getElem_mem hlt
    obtain ⟨x, hx⟩ : ∃ x, x = fs[j] := ⟨_, rfl⟩
    rw [← hx] at hcx htk hmem
    refine WP.skip ?_
    refine WP.seq ?_
    refine WP.block ?_
    refine WP.seq ?_
    refine WP.rquiet mixed (by kernel_rfl) H ?_
    clear H; intro w hbw4 H
    refine OPS.val rfl rfl rfl (Ev.mvS rfl) ?_
    refine OPS.val rfl rfl rfl (Ev.mvI rfl) ?_
    refine OPS.val rfl rfl rfl ((by first | exact Ev.indexAddr1 (el_run rfl) (size_run rfl) rfl rfl rfl (by omega) | exact Ev.indexAddr (el_run rfl) (size_run rfl) rfl rfl rfl (by omega))) ?_
    refine OPS.val rfl rfl rfl ((by first | exact Ev.loadO 0 H rfl (agg_run rfl) (size_run rfl) (by first | assumption | rfl) rfl | exact Ev.loadO 1 H rfl (agg_run rfl) (size_run rfl) (by first | assumption | rfl) rfl | exact Ev.loadO 2 H rfl (agg_run rfl) (size_run rfl) (by first | assumption | rfl) rfl | exact Ev.loadO 3 H rfl (agg_run rfl) (size_run rfl) (by first | assumption | rfl) rfl | exact Ev.loadO 4 H rfl (agg_run rfl) (size_run rfl) (by first | assumption | rfl) rfl | exact Ev.loadO 5 H rfl (agg_run rfl) (size_run rfl) (by first | assumption | rfl) rfl | exact Ev.loadO 6 H rfl (agg_run rfl) (size_run rfl) (by first | assumption | rfl) rfl | (change Ev _ _ _ _ (Op.load 28 (Operand.tmp 16)) _; exact Ev.loadN (fenCells x) (agg_run rfl) (size_run rfl) rfl (cellsAt_sh H hcx)))) ?_
    refine OPS.val rfl rfl rfl (Ev.mvI rfl) ?_
    refine OPS.callq rfl rfl rfl (EvC.func (fun_run rfl)) (fun w2 hb2 => rActive x a w2) ?_
    refine OPS.val rfl rfl rfl (Ev.mvS rfl) ?_
    refine OPS.val rfl rfl rfl (Ev.mvI rfl) ?_
    refine OPS.val rfl rfl rfl ((by first | exact Ev.indexAddr1 (el_run rfl) (size_run rfl) rfl rfl rfl (by omega) | exact Ev.indexAddr (el_run rfl) (size_run rfl) rfl rfl rfl (by omega))) ?_
    refine OPS.val rfl rfl rfl ((by first | exact Ev.loadO 0 H rfl (agg_run rfl) (size_run rfl) (by first | assumption | rfl) rfl | exact Ev.loadO 1 H rfl (agg_run rfl) (size_run rfl) (by first | assumption | rfl) rfl | exact Ev.loadO 2 H rfl (agg_run rfl) (size_run rfl) (by first | assumption | rfl) rfl | exact Ev.loadO 3 H rfl (agg_run rfl) (size_run rfl) (by first | assumption | rfl) rfl | exact Ev.loadO 4 H rfl (agg_run rfl) (size_run rfl) (by first | assumption | rfl) rfl | exact Ev.loadO 5 H rfl (agg_run rfl) (size_run rfl) (by first | assumption | rfl) rfl | exact Ev.loadO 6 H rfl (agg_run rfl) (size_run rfl) (by first | assumption | rfl) rfl | (change Ev _ _ _ _ (Op.load 28 (Operand.tmp 22)) _; exact Ev.loadN (fenCells x) (agg_run rfl) (size_run rfl) rfl (cellsAt_sh H hcx)))) ?_
    refine OPS.val rfl rfl rfl (Ev.mvI rfl) ?_
    refine OPS.callq rfl rfl rfl (EvC.func (fun_run rfl)) (fun w2 hb2 => rActive x b w2) ?_
    refine OPS.val rfl rfl rfl (Ev.neqB Try.runUnderlying4 rfl rfl) ?_
    refine OPS.nilq H ?_
    clear H; intro w hbx4 H
    refine WP.cond rfl (fun hc4 => ?_) (fun hc4 => ?_)
    · refine WP.seq ?_
      refine WP.region ?_
      refine OPS.val rfl rfl rfl (Ev.asB rfl) ?_
      refine OPS.nil ?_
      refine WP.ret ⟨_, rfl, ?_⟩
      exact ⟨ret_b rfl (List.any_eq_true.2 ⟨x, hmem, hc4⟩).symm, H.below⟩
    have heq : activeB x a = activeB x b := by simpa using hc4
    refine WP.skip ?_
    refine WP.region ?_
    refine OPS.val rfl rfl rfl (Ev.mvI rfl) ?_
    refine OPS.val rfl rfl rfl (Ev.add rfl rfl (by unfold fits; omega)) ?_
    refine OPS.val rfl rfl rfl (Ev.asI rfl) ?_
    refine OPS.nil ?_
    exact ⟨(by repeat (first | exact Agree.refl _ _ | exact Agree.mix _ _ _ | refine Agree.upd rfl ?_ | refine Agree.mix2 rfl ?_)), k - 1, by omega, j + 1, by omega, rfl, (fun f hf => by
      rw [htk] at hf
      rcases List.mem_append.1 hf with h | h
      · exact hall f h
      · rw [List.mem_singleton.1 h]; exact heq), H⟩
  refine WP.exit ?_
  refine XB.hit ?_
  refine WP.seq ?_
  refine WP.region ?_
  refine OPS.val rfl rfl rfl (Ev.asB rfl) ?_
  refine OPS.nil ?_
  refine WP.ret ⟨_, rfl, ?_⟩
  have hj : j = fs.length := by simp at hc2; omega
  rw [hj, List.take_length] at hall
  exact ⟨ret_b rfl (List.any_eq_false.2 fun f hf => by rw [hall f hf]; simp).symm, H.below⟩
/-! ### Compact -/
/-- the first i numbers, without those that equal the one before them -/
def cmpT (zs : List Int) : Nat → List Int
  | 0 => []
  | i + 1 => cmpT zs i ++ if 0 < i ∧ zs.getD i 0 = zs.getD (i - 1) 0 then [] else [zs.getD i 0]
theorem cmpT_len (zs : List Int) : ∀ i, (cmpT zs i).length ≤ i
  | 0 => by simp [cmpT]
  | i + 1 => by
    have := cmpT_len zs i
    rw [cmpT, List.length_append]; split <;> simp <;> omega
theorem cmpT_one (zs : List Int) : cmpT zs 1 = [zs.getD 0 0] := by simp [cmpT]
/-- nothing repeated among the first i -/
theorem cmpT_id {zs : List Int} : ∀ {i : Nat}, i ≤ zs.length → (∀ j, 0 < j → j < i → zs.getD j 0 ≠ zs.getD (j - 1) 0) → cmpT zs i = zs.take i
  | 0, _, _ => by simp [cmpT]
  | i + 1, hi, h => by
    rw [cmpT, cmpT_id (by omega) fun j h0 h1 => h j h0 (by omega), if_neg (fun hh => h i hh.1 (by omega) hh.2), List.take_succ_eq_append_getElem (show i < zs.length by omega), List.getD_eq_getElem?_getD, List.getElem?_eq_getElem (by omega)]; rfl
theorem getI {l : List Int} {k : Nat} (h : k < l.length) : l.getD k 0 = l[k] := by rw [List.getD_eq_getElem?_getD, List.getElem?_eq_getElem h]; rfl
set_option maxHeartbeats 2000000 in
theorem slCompact (g : Nat) (zs : List Int) (sp : List Value) (cap : Nat) (w0 : World) (H0 : SH w0 [g] w0 [⟨g, 3, zs.map I ++ sp⟩]) (hl : zs.length ≤ 100000) (hcap : zs.length ≤ cap) :
    Calls Try.prog 41 #[.slice (some ⟨g, 0, none⟩) zs.length cap] w0 fun e w' => ∃ sp', e = .returned (.slice (some ⟨g, 0, none⟩) (cmpT zs zs.length).length cap) ∧ SH w0 [g] w' [⟨g, 3, (cmpT zs zs.length).map I ++ sp'⟩] := by
  have H := H0
  have hcl : ∀ (cur : List Int) (w : World), SH w0 [g] w [⟨g, 3, cur.map I ++ sp⟩] → ∀ k (h : k < cur.length), w.cell? ⟨g, 0 + k, none⟩ = some (I cur[k]) := fun cur w H k hk => by
    obtain ⟨b, o, e, hc⟩ := OnesAt.own (enc := I) (l := cur) (post := sp) H 0 rfl rfl k hk
    cases e; exact hc
  refine Calls.ofWP Try.func41 rfl Try.results41 Try.ntmps41 rfl ?_
  refine WP.seq ?_
  refine WP.region ?_
  refine OPS.val rfl rfl rfl (Ev.asS rfl) ?_
  refine OPS.nil ?_
  refine WP.seq ?_
  refine WP.seq ?_
  refine WP.region ?_
  refine OPS.val rfl rfl rfl (Ev.mvS rfl) ?_
  refine OPS.val rfl rfl rfl (Ev.len (el_run rfl) rfl) ?_
  refine OPS.val rfl rfl rfl (Ev.lss rfl rfl) ?_
  refine OPS.nil ?_
  refine WP.cond rfl (fun hc1 => ?_) (fun hc1 => ?_)
  · refine WP.seq ?_
    refine WP.region ?_
    refine OPS.val rfl rfl rfl (Ev.mvS rfl) ?_
    refine OPS.val rfl rfl rfl (Ev.asS rfl) ?_
    refine OPS.nil ?_
    refine WP.ret ⟨_, rfl, ?_⟩
    have h : zs.length < 2 := by simp at hc1; omega
    have hid : cmpT zs zs.length = zs := by rw [cmpT_id (Nat.le_refl _) (fun j h0 h1 => by omega), List.take_length]
    rw [hid]
    exact ⟨sp, rfl, H⟩
  have h2 : 2 ≤ zs.length := by simp at hc1; omega
  refine WP.skip ?_
  refine WP.seq ?_
  refine WP.seq ?_
  refine WP.region ?_
  refine OPS.val rfl rfl rfl (Ev.asI rfl) ?_
  refine OPS.nil ?_
  refine WP.block ?_
  refine WP.loop [2, 3, 4, 5, 10, 11, 12, 13, 14, 15, 16, 17, 18, 19, 20, 21, 22, 23, 24, 25, 26, 27, 28, 29, 30, 31, 32, 33, 34, 35, 36, 37, 38, 39, 40, 41, 42, 43, 44, 45, 46, 47, 48, 49, 50, 51, 52, 53, 54, 55, 56, 57, 58, 59] (fun k e w' => ∃ (q : Nat), q + 1 + k = zs.length ∧ e 3 = I ((q + 1 : Nat) : Int) ∧ (∀ j, 0 < j → j < q + 1 → zs.getD j 0 ≠ zs.getD (j - 1) 0) ∧ SH w0 [g] w' [⟨g, 3, zs.map I ++ sp⟩]) ((zs.length - 1)) (⟨0, by omega, rfl, fun _ _ _ => by omega, H⟩) ?_
  clear H
  rintro k u w ⟨q, hk, h3, hall, H⟩
  refine WP.know (t := 3) h3 ?_
  refine WP.seq ?_
  refine WP.seq ?_
  refine WP.region ?_
  refine OPS.val rfl rfl rfl (Ev.mvI rfl) ?_
  refine OPS.val rfl rfl rfl (Ev.mvS rfl) ?_
  refine OPS.val rfl rfl rfl (Ev.len (el_run rfl) rfl) ?_
  refine OPS.val rfl rfl rfl (Ev.lss rfl rfl) ?_
  refine OPS.nil ?_
  refine WP.cond rfl (fun hc4 => ?_) (fun hc4 => ?_)
  · have hlt : q + 1 < zs.length := by simp at hc4; omega
    have hgq := getI (show q < zs.length by omega)
    have hgq1 := getI hlt
    refine WP.skip ?_
    refine WP.seq ?_
    refine WP.block ?_
    refine WP.seq ?_
    refine WP.rstill mixed (by kernel_rfl) H ?_
    clear H; intro w hbw6 H
    have hx := hcl zs w H (q + 1) hlt
    have hy := hcl zs w H q (by omega)
    refine OPS.val rfl rfl rfl (Ev.mvS rfl) ?_
    refine OPS.val rfl rfl rfl (Ev.mvI rfl) ?_
    refine OPS.val rfl rfl rfl ((by first | exact Ev.indexAddr1 (el_run rfl) (size_run rfl) rfl rfl rfl (by omega) | exact Ev.indexAddr (el_run rfl) (size_run rfl) rfl rfl rfl (by omega))) ?_
    refine OPS.val rfl rfl rfl (Ev.load1 (agg_run rfl) rfl (by first | exact H.ldL 0 rfl _ rfl | exact H.ldL 1 rfl _ rfl | exact H.ldL 2 rfl _ rfl | exact H.ldL 3 rfl _ rfl | exact H.ldL 4 rfl _ rfl | exact H.ldL 5 rfl _ rfl | exact H.ldL 6 rfl _ rfl | exact H.ldL 7 rfl _ rfl | exact H.ld0 (by assumption) | assumption | exact H.ldS (by assumption) (by assumption))) ?_
    refine OPS.val rfl rfl rfl (Ev.mvS rfl) ?_
    refine OPS.val rfl rfl rfl (Ev.mvI rfl) ?_
    refine OPS.val rfl rfl rfl (Ev.sub rfl rfl (by unfold fits; omega)) ?_
    rw [show (((q + 1 : Nat) : Int) - 1) = (q : Int) by omega]
    refine OPS.val rfl rfl rfl ((by first | exact Ev.indexAddr1 (el_run rfl) (size_run rfl) rfl rfl rfl (by omega) | exact Ev.indexAddr (el_run rfl) (size_run rfl) rfl rfl rfl (by omega))) ?_
    refine OPS.val rfl rfl rfl (Ev.load1 (agg_run rfl) rfl (by first | exact H.ldL 0 rfl _ rfl | exact H.ldL 1 rfl _ rfl | exact H.ldL 2 rfl _ rfl | exact H.ldL 3 rfl _ rfl | exact H.ldL 4 rfl _ rfl | exact H.ldL 5 rfl _ rfl | exact H.ldL 6 rfl _ rfl | exact H.ldL 7 rfl _ rfl | exact H.ld0 (by assumption) | assumption | exact H.ldS (by assumption) (by assumption))) ?_
    refine OPS.val rfl rfl rfl (Ev.eql rfl rfl) ?_
    refine OPS.nil_s ?_
    refine WP.cond rfl (fun hc6 => ?_) (fun hc6 => ?_)
    · have heq : zs[q + 1] = zs[q] := by simpa using hc6
      refine WP.seq ?_
      refine WP.region ?_
      refine OPS.val rfl rfl rfl (Ev.mvS rfl) ?_
      refine OPS.val rfl rfl rfl (Ev.mvI rfl) ?_
      refine OPS.val rfl rfl rfl (Ev.sliceFrom2 (j := q + 1) (el_run rfl) (size_run rfl) rfl rfl rfl (by omega) (by omega)) ?_
      refine OPS.val rfl rfl rfl (Ev.asS rfl) ?_
      refine OPS.nil ?_
      refine WP.seq ?_
      refine WP.seq ?_
      refine WP.region ?_
      refine OPS.val rfl rfl rfl (Ev.asI rfl) ?_
      refine OPS.nil ?_
      refine WP.block ?_
      refine WP.loop [3, 5, 29, 30, 31, 32, 33, 34, 35, 36, 37, 38, 39, 40, 41, 42, 43, 44, 45, 46, 47, 48, 49, 50, 51, 52, 53] (fun k e w' => ∃ (m i : Nat) (cur : List Int), i + 1 + k = zs.length ∧ e 5 = I ((i - q : Nat) : Int) ∧ q + 1 ≤ i ∧ m ≤ i ∧ e 3 = I m ∧ m = (cmpT zs (i + 1)).length ∧ cur.length = zs.length ∧ cur.take m = cmpT zs (i + 1) ∧ cur.drop i = zs.drop i ∧ SH w0 [g] w' [⟨g, 3, cur.map I ++ sp⟩]) ((zs.length - 1 - (q + 1))) (⟨q + 1, q + 1, zs, by omega, by rw [show q + 1 - q = 1 by omega]; rfl, by omega, by omega, rfl, by rw [cmpT, if_pos ⟨by omega, by rw [hgq1, show q + 1 - 1 = q by omega, hgq]; exact heq⟩, List.append_nil, cmpT_id (by omega) hall]; simp; omega, rfl, by rw [cmpT, if_pos ⟨by omega, by rw [hgq1, show q + 1 - 1 = q by omega, hgq]; exact heq⟩, List.append_nil, cmpT_id (by omega) hall], rfl, H⟩) ?_
      clear H
      rintro k2 u2 w ⟨m, i, cur, hk2, h5, hqi, hmi, h3', hml, hcl2, htk, hdr, H⟩
      refine WP.know (t := 5) h5 (WP.know (t := 3) h3' ?_)
      refine WP.seq ?_
      refine WP.seq ?_
      refine WP.region ?_
      refine OPS.val rfl rfl rfl (Ev.mvI rfl) ?_
      refine OPS.val rfl rfl rfl (Ev.mvS rfl) ?_
      refine OPS.val rfl rfl rfl (Ev.len (el_run rfl) rfl) ?_
      refine OPS.val rfl rfl rfl (Ev.lss rfl rfl) ?_
      refine OPS.nil ?_
      refine WP.cond rfl (fun hc9 => ?_) (fun hc9 => ?_)
      · have hlt2 : i + 1 < zs.length := by simp at hc9; omega
        have hgi := getI (show i < zs.length by omega)
        have hgi1 := getI hlt2
        have hci : cur[i]'(by omega) = zs[i] := by
          have := congrArg (fun l => l[0]?) hdr
          simp only [List.getElem?_drop, Nat.add_zero] at this
          rw [List.getElem?_eq_getElem (by omega), List.getElem?_eq_getElem (by omega)] at this
          exact Option.some.inj this
        have hci1 : cur[i + 1]'(by omega) = zs[i + 1] := by
          have := congrArg (fun l => l[1]?) hdr
          simp only [List.getElem?_drop] at this
          rw [List.getElem?_eq_getElem (by omega), List.getElem?_eq_getElem (by omega)] at this
          exact Option.some.inj this
        have hnx : cmpT zs (i + 1 + 1) = cmpT zs (i + 1) ++ if zs[i + 1] = zs[i] then [] else [zs[i + 1]] := by
          rw [cmpT, hgi1, show i + 1 - 1 = i by omega, hgi]
          by_cases hh : zs[i + 1] = zs[i]
          · rw [if_pos ⟨by omega, hh⟩, if_pos hh]
          · rw [if_neg (fun x => hh x.2), if_neg hh]
        have hiq : 0 + (q + 1) * 1 + (i - q) = 0 + (i + 1) := by omega
        have hiq2 : 0 + (q + 1) * 1 + (i - q - 1) = 0 + i := by omega
        refine WP.skip ?_
        refine WP.seq ?_
        refine WP.block ?_
        refine WP.seq ?_
        refine WP.rstill mixed (by kernel_rfl) H ?_
        clear H; intro w hbw11 H
        have hx := hcl cur w H (i + 1) (by omega)
        have hy := hcl cur w H i (by omega)
        rw [hci1, ← hiq] at hx
        rw [hci, ← hiq2] at hy
        refine OPS.val rfl rfl rfl (Ev.mvS rfl) ?_
        refine OPS.val rfl rfl rfl (Ev.mvI rfl) ?_
        refine OPS.val rfl rfl rfl ((by first | exact Ev.indexAddr1 (el_run rfl) (size_run rfl) rfl rfl rfl (by omega) | exact Ev.indexAddr (el_run rfl) (size_run rfl) rfl rfl rfl (by omega))) ?_
        refine OPS.val rfl rfl rfl (Ev.load1 (agg_run rfl) rfl (by first | exact H.ldL 0 rfl _ rfl | exact H.ldL 1 rfl _ rfl | exact H.ldL 2 rfl _ rfl | exact H.ldL 3 rfl _ rfl | exact H.ldL 4 rfl _ rfl | exact H.ldL 5 rfl _ rfl | exact H.ldL 6 rfl _ rfl | exact H.ldL 7 rfl _ rfl | exact H.ld0 (by assumption) | assumption | exact H.ldS (by assumption) (by assumption))) ?_
        refine OPS.val rfl rfl rfl (Ev.mvS rfl) ?_
        refine OPS.val rfl rfl rfl (Ev.mvI rfl) ?_
        refine OPS.val rfl rfl rfl (Ev.sub rfl rfl (by unfold fits; omega)) ?_
        rw [show (((i - q : Nat) : Int) - 1) = ((i - q - 1 : Nat) : Int) by omega]
        refine OPS.val rfl rfl rfl ((by first | exact Ev.indexAddr1 (el_run rfl) (size_run rfl) rfl rfl rfl (by omega) | exact Ev.indexAddr (el_run rfl) (size_run rfl) rfl rfl rfl (by omega))) ?_
        refine OPS.val rfl rfl rfl (Ev.load1 (agg_run rfl) rfl (by first | exact H.ldL 0 rfl _ rfl | exact H.ldL 1 rfl _ rfl | exact H.ldL 2 rfl _ rfl | exact H.ldL 3 rfl _ rfl | exact H.ldL 4 rfl _ rfl | exact H.ldL 5 rfl _ rfl | exact H.ldL 6 rfl _ rfl | exact H.ldL 7 rfl _ rfl | exact H.ld0 (by assumption) | assumption | exact H.ldS (by assumption) (by assumption))) ?_
        refine OPS.val rfl rfl rfl (Ev.neq rfl rfl) ?_
        refine OPS.nil_s ?_
        refine WP.cond rfl (fun hc11 => ?_) (fun hc11 => ?_)
        · refine WP.seq ?_
          have hne : zs[i + 1] ≠ zs[i] := by simpa using hc11
          rw [if_neg hne] at hnx
          have hx' := hcl cur w H (i + 1) (by omega)
          rw [hci1, ← hiq] at hx'
          refine WP.region ?_
          refine OPS.val rfl rfl rfl (Ev.mvS rfl) ?_
          refine OPS.val rfl rfl rfl (Ev.mvI rfl) ?_
          refine OPS.val rfl rfl rfl (Ev.mvS rfl) ?_
          refine OPS.val rfl rfl rfl (Ev.mvI rfl) ?_
          refine OPS.val rfl rfl rfl ((by first | exact Ev.indexAddr1 (el_run rfl) (size_run rfl) rfl rfl rfl (by omega) | exact Ev.indexAddr (el_run rfl) (size_run rfl) rfl rfl rfl (by omega))) ?_
          refine OPS.val rfl rfl rfl (Ev.load1 (agg_run rfl) rfl (by first | exact H.ldL 0 rfl _ rfl | exact H.ldL 1 rfl _ rfl | exact H.ldL 2 rfl _ rfl | exact H.ldL 3 rfl _ rfl | exact H.ldL 4 rfl _ rfl | exact H.ldL 5 rfl _ rfl | exact H.ldL 6 rfl _ rfl | exact H.ldL 7 rfl _ rfl | exact H.ld0 (by assumption) | assumption | exact H.ldS (by assumption) (by assumption))) ?_
          refine OPS.val rfl rfl rfl ((by first | exact Ev.indexAddr1 (el_run rfl) (size_run rfl) rfl rfl rfl (by omega) | exact Ev.indexAddr (el_run rfl) (size_run rfl) rfl rfl rfl (by omega))) ?_
          refine OPS.store (b := ⟨g, 3, cur.map I ++ sp⟩) 0 (0 + m) rfl rfl rfl (size_run rfl) rfl (cI (n := zs[i + 1]) rfl) rfl rfl H rfl (by simp; omega) ?_
          clear H; intro w H
          simp only [List.set_cons_zero] at H
          rw [Nat.zero_add, putL_pre (enc := I) cur sp m zs[i + 1] (by omega)] at H
          refine OPS.nil ?_
          refine WP.region ?_
          refine OPS.val rfl rfl rfl (Ev.mvI rfl) ?_
          refine OPS.val rfl rfl rfl (Ev.add rfl rfl (by unfold fits; omega)) ?_
          refine OPS.val rfl rfl rfl (Ev.asI rfl) ?_
          refine OPS.nil ?_
          refine WP.region ?_
          refine OPS.val rfl rfl rfl (Ev.mvI rfl) ?_
          refine OPS.val rfl rfl rfl (Ev.add rfl rfl (by unfold fits; omega)) ?_
          refine OPS.val rfl rfl rfl (Ev.asI rfl) ?_
          refine OPS.nil ?_
          first
            | exact ⟨(by repeat (first | exact Agree.refl _ _ | exact Agree.mix _ _ _ | refine Agree.upd rfl ?_ | refine Agree.mix2 rfl ?_)), k2 - 1, by omega, m, i + 1, cur, by omega, (by rw [show i + 1 - q = (i - q) + 1 by omega, Int.natCast_add]; rfl), by omega, by omega, rfl, by rw [hnx]; exact hml, hcl2, by rw [hnx]; exact htk, by rw [← List.drop_drop, ← List.drop_drop, hdr], H⟩
            | exact ⟨(by repeat (first | exact Agree.refl _ _ | exact Agree.mix _ _ _ | refine Agree.upd rfl ?_ | refine Agree.mix2 rfl ?_)), k2 - 1, by omega, m + 1, i + 1, cur.set m zs[i + 1], by omega, (by rw [show i + 1 - q = (i - q) + 1 by omega, Int.natCast_add]; rfl), by omega, by omega, rfl, by rw [hnx, List.length_append, ← hml]; rfl, by rw [List.length_set]; exact hcl2, by rw [hnx, List.take_succ_eq_append_getElem (by rw [List.length_set]; omega), List.take_set_of_le (Nat.le_refl _), htk, List.getElem_set_self], by rw [List.drop_set_of_lt (by omega), ← List.drop_drop, ← List.drop_drop, hdr], H⟩
        have heq2 : zs[i + 1] = zs[i] := by simpa using hc11
        rw [if_pos heq2, List.append_nil] at hnx
        refine WP.skip ?_
        refine WP.region ?_
        refine OPS.val rfl rfl rfl (Ev.mvI rfl) ?_
        refine OPS.val rfl rfl rfl (Ev.add rfl rfl (by unfold fits; omega)) ?_
        refine OPS.val rfl rfl rfl (Ev.asI rfl) ?_
        refine OPS.nil ?_
        first
          | exact ⟨(by repeat (first | exact Agree.refl _ _ | exact Agree.mix _ _ _ | refine Agree.upd rfl ?_ | refine Agree.mix2 rfl ?_)), k2 - 1, by omega, m, i + 1, cur, by omega, (by rw [show i + 1 - q = (i - q) + 1 by omega, Int.natCast_add]; rfl), by omega, by omega, rfl, by rw [hnx]; exact hml, hcl2, by rw [hnx]; exact htk, by rw [← List.drop_drop, ← List.drop_drop, hdr], H⟩
          | exact ⟨(by repeat (first | exact Agree.refl _ _ | exact Agree.mix _ _ _ | refine Agree.upd rfl ?_ | refine Agree.mix2 rfl ?_)), k2 - 1, by omega, m + 1, i + 1, cur.set m zs[i + 1], by omega, (by rw [show i + 1 - q = (i - q) + 1 by omega, Int.natCast_add]; rfl), by omega, by omega, rfl, by rw [hnx, List.length_append, ← hml]; rfl, by rw [List.length_set]; exact hcl2, by rw [hnx, List.take_succ_eq_append_getElem (by rw [List.length_set]; omega), List.take_set_of_le (Nat.le_refl _), htk, List.getElem_set_self], by rw [List.drop_set_of_lt (by omega), ← List.drop_drop, ← List.drop_drop, hdr], H⟩
      have hi : i + 1 = zs.length := by simp at hc9; omega
      rw [hi] at htk hml
      refine WP.exit ?_
      refine XB.hit ?_
      refine WP.seq ?_
      refine WP.region ?_
      refine OPS.val rfl rfl rfl (Ev.mvS rfl) ?_
      refine OPS.val rfl rfl rfl (Ev.mvI rfl) ?_
      refine OPS.val rfl rfl rfl (Ev.sliceFrom2 (j := m) (el_run rfl) (size_run rfl) rfl rfl rfl (by omega) (by omega)) ?_
      refine OPS.clear (b := ⟨g, 3, cur.map I ++ sp⟩) 0 (0 + m * 1) rfl rfl rfl (zs := [I 0]) (el_run rfl) (zero_run rfl) rfl (by decide) rfl rfl (by omega) H rfl (by simp; omega) ?_
      clear H; intro w H
      simp only [List.set_cons_zero] at H
      refine OPS.nil ?_
      refine WP.seq ?_
      refine WP.region ?_
      refine OPS.val rfl rfl rfl (Ev.mvS rfl) ?_
      refine OPS.val rfl rfl rfl (Ev.mvI rfl) ?_
      refine OPS.val rfl rfl rfl (Ev.sliceTo (j := m) (el_run rfl) ⟨1, size_run rfl⟩ rfl rfl rfl (by omega)) ?_
      refine OPS.val rfl rfl rfl (Ev.asS rfl) ?_
      refine OPS.nil ?_
      refine WP.ret ⟨_, rfl, ?_⟩
      refine ⟨(putL (cur.map I ++ sp) (0 + m * 1) (mkL (zs.length - m) [I 0])).drop m, by rw [← hml]; rfl, ?_⟩
      have hpt : ∀ (vs cs : List Value) (k : Nat), m ≤ k → (putL cs k vs).take m = cs.take m := fun vs => by
        induction vs with
        | nil => intro cs k _; rfl
        | cons v vs ih =>
          intro cs k hk
          rw [putL, ih _ _ (by omega), List.take_set_of_le (by omega)]
      have hfin : putL (cur.map I ++ sp) (0 + m * 1) (mkL (zs.length - m) [I 0]) = (cmpT zs zs.length).map I ++ (putL (cur.map I ++ sp) (0 + m * 1) (mkL (zs.length - m) [I 0])).drop m := by
        conv => lhs; rw [← List.take_append_drop m (putL (cur.map I ++ sp) (0 + m * 1) (mkL (zs.length - m) [I 0]))]
        rw [hpt _ _ _ (by omega), List.take_append_of_le_length (by simp; omega), ← List.map_take, htk]
      rw [← hfin]
      exact H
    have hne : zs[q + 1] ≠ zs[q] := by simpa using hc6
    refine WP.skip ?_
    refine WP.region ?_
    refine OPS.val rfl rfl rfl (Ev.mvI rfl) ?_
    refine OPS.val rfl rfl rfl (Ev.add rfl rfl (by unfold fits; omega)) ?_
    refine OPS.val rfl rfl rfl (Ev.asI rfl) ?_
    refine OPS.nil ?_
    exact ⟨(by repeat (first | exact Agree.refl _ _ | exact Agree.mix _ _ _ | refine Agree.upd rfl ?_ | refine Agree.mix2 rfl ?_)), k - 1, by omega, q + 1, by omega, rfl, (fun j h0 h1 => by
      by_cases hj : j < q + 1
      · exact hall j h0 hj
      · obtain rfl : j = q + 1 := by omega
        rw [hgq1, show q + 1 - 1 = q by omega, hgq]; exact hne), H⟩
  refine WP.exit ?_
  refine XB.hit ?_
  refine WP.seq ?_
  refine WP.region ?_
  refine OPS.val rfl rfl rfl (Ev.mvS rfl) ?_
  refine OPS.val rfl rfl rfl (Ev.asS rfl) ?_
  refine OPS.nil ?_
  refine WP.ret ⟨_, rfl, ?_⟩
  have hq : q + 1 = zs.length := by simp at hc4; omega
  have hid : cmpT zs zs.length = zs := by rw [cmpT_id (Nat.le_refl _) (fun j h0 h1 => hall j h0 (by omega)), List.take_length]
  rw [hid]
  exact ⟨sp, rfl, H⟩
end Go.Proofs.Ytkfklebaeifdnaa
