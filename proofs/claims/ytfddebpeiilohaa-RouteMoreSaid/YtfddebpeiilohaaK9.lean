/-
  Walks: Best, Moved.
-/
import Derived.Test.YtfddebpeiilohaaK6
import Derived.Laws.Bits128
set_option linter.all false
namespace Go.Proofs.Ytfddebpeiilohaa
open Go Go.W Go.RowKit

section
variable (n : Int) (l : List Edg) (ts : List Truck) (ns : List Need) (hd rt : Int) (rn : List Int)
def CandP (o : List Int) : Prop := o.Perm rn ∧ walkE n l ts ns hd rt o = 0
def SubP (o : List Int) : Prop := (o.Nodup ∧ ∀ i ∈ o, i ∈ rn) ∧ walkE n l ts ns hd rt o = 0
inductive BestAns : Int → Int → List Int → Prop
  | no (h : askErr n l ts ns hd rt rn ≠ 0) : BestAns (askErr n l ts ns hd rt rn) 0 []
  | empty (h : askErr n l ts ns hd rt rn = 0) (hb : IsBest (mvL ns) (secsD n l ts ns hd rt) (CandP n l ts ns hd rt rn) none) : BestAns 10 0 []
  | ok (h : askErr n l ts ns hd rt rn = 0) (x : List Int) (hb : IsBest (mvL ns) (secsD n l ts ns hd rt) (CandP n l ts ns hd rt rn) (some x)) : BestAns 0 rt x
inductive MostAns : Int → Int → List Int → Prop
  | no (h : askErr n l ts ns hd rt rn ≠ 0) : MostAns (askErr n l ts ns hd rt rn) 0 []
  | ok (h : askErr n l ts ns hd rt rn = 0) (s : Option (List Int)) (hb : IsBest (mvL ns) (secsD n l ts ns hd rt) (SubP n l ts ns hd rt rn) s) : MostAns 0 rt (s.getD [])
end
theorem ask_ok {n : Int} {l : List Edg} {ts : List Truck} {ns : List Need} {hd rt : Int} {rn : List Int} (h : askErr n l ts ns hd rt rn = 0) :
    nightErr n l ts ns hd = 0 ∧ routeErr ts ns rt rn = 0 ∧ rn.length ≤ 6 := by
  unfold askErr at h
  split at h
  · rename_i h1; exact absurd h h1
  · rename_i h1
    split at h
    · rename_i h2; exact absurd h h2
    · rename_i h2
      split at h
      · cases h
      · exact ⟨Classical.not_not.1 h1, Classical.not_not.1 h2, by omega⟩
set_option maxHeartbeats 4000000 in
theorem routeBestX (n hd rt : Int) (A B C R : Option Addr) (l : List Edg) (ts : List Truck) (ns : List Need) (rn : List Int) (ca cb cc cr : Nat) (w0 : World) (hz : EdgsAt w0 A l) (ht : RowsAt 4 truckCells w0 B ts) (hn : RowsAt 2 needCells w0 C ns) (hcc : ns.length ≤ cc) (hr : IntsAt w0 R rn) (hrl : rn.length ≤ 1000) :
    Calls Try.prog 11 #[.agg #[I n, .slice A l.length ca, .slice B ts.length cb, .slice C ns.length cc, I hd], I rt, .slice R rn.length cr] w0 fun e w' => ∃ (er r0 : Int) (x : List Int) (X : Option Addr) (c : Nat) (Lf : List Blk), e = .returned (.tuple #[.agg #[I r0, .slice X x.length c], I er]) ∧ BestAns n l ts ns hd rt rn er r0 x ∧ OwnS X c x.length (x.map I) 3 1 Lf ∧ SH w0 [] w' Lf := by
  have H := SH.refl w0
  refine Calls.ofWPc Try.func11 rfl Try.results11 Try.ntmps11 rfl ?_
  refine WP.seq ?_
  refine WP.region ?_
  refine OPS.box rfl rfl rfl rfl (cA rfl) H ?_
  clear H; intro g3 w H
  refine OPS.alloc rfl rfl rfl rfl (zero_run rfl) rfl H ?_
  clear H; intro g6 w H
  refine OPS.val rfl rfl rfl (Ev.asI rfl) ?_
  refine OPS.nil ?_
  refine WP.seq ?_
  refine WP.seq ?_
  refine WP.region ?_
  refine OPS.val rfl rfl rfl ((by exact Ev.loadO 1 H rfl (agg_run rfl) (size_run rfl) (by rfl) rfl)) ?_
  refine OPS.val rfl rfl rfl (Ev.mvI rfl) ?_
  refine OPS.val rfl rfl rfl (Ev.mvS rfl) ?_
  refine OPS.call (d := some 13) rfl rfl rfl (EvC.func (fun_run rfl)) (routeCheck n hd rt A B C R l ts ns rn ca cb cc cr w (hz.sh H) (ht.sh H) (hn.sh H) hcc (hr.sh H) hrl) ?_
  rintro _ w ⟨rfl, hb⟩
  refine ⟨_, rfl, ?_⟩
  replace H := H.toBelow hb; clear hb
  refine OPS.val rfl rfl rfl (Ev.asI rfl) ?_
  refine OPS.nil ?_
  refine WP.seq ?_
  refine WP.region ?_
  refine OPS.val rfl rfl rfl (Ev.mvI rfl) ?_
  refine OPS.val rfl rfl rfl (Ev.neq rfl rfl) ?_
  refine OPS.nil ?_
  refine WP.cond rfl (fun hc2 => ?_) (fun hc2 => ?_)
  · refine WP.seq ?_
    refine WP.region ?_
    refine OPS.val rfl rfl rfl (Ev.build (bld_34_ (e := fun _ => .int .i64 0))) ?_
    refine OPS.val rfl rfl rfl (Ev.mvI rfl) ?_
    refine OPS.store 0 _ rfl rfl rfl (size_run rfl) rfl (cA rfl) rfl rfl H rfl (by simp) ?_
    clear H; intro w H; try simp only [List.set_cons_zero, List.set_cons_succ, putL, Nat.zero_add] at H
    refine OPS.val rfl rfl rfl (Ev.asI rfl) ?_
    refine OPS.nil ?_
    refine WP.ret ⟨[_, _], ⟨(by exact resCellA 0 H rfl (agg_run rfl) (size_run rfl) (by rfl) rfl), rfl, trivial⟩, ?_⟩
    have h : askErr n l ts ns hd rt rn ≠ 0 := by simpa using hc2
    exact ⟨_, _, [], none, 0, [], rfl, .no h, OwnS.nil, H.drop (List.nil_sublist _)⟩
  have h0 : askErr n l ts ns hd rt rn = 0 := by simpa using hc2
  obtain ⟨hN0, hR0, hl6⟩ := ask_ok h0
  obtain ⟨m, rfl, hN⟩ := nightOk_of hN0
  obtain ⟨_, hin, hnd, _⟩ := routeOk_of hR0
  have hm : ∀ x ∈ ns, -32 ≤ x.move ∧ x.move ≤ 32 := fun x hx => (hN.nd x hx).2.2
  refine WP.skip ?_
  refine WP.seq ?_
  refine WP.region ?_
  refine OPS.val rfl rfl rfl ((by exact Ev.loadO 1 H rfl (agg_run rfl) (size_run rfl) (by rfl) rfl)) ?_
  refine OPS.val rfl rfl rfl (Ev.mvI rfl) ?_
  refine OPS.val rfl rfl rfl (Ev.mvS rfl) ?_
  refine OPS.call (d := some 21) rfl rfl rfl (EvC.func (fun_run rfl)) (routeBest m hd rt A B C R l ts ns rn ca cb cc cr w (hz.sh H) (ht.sh H) (hn.sh H) hcc hm hN.nl (hr.sh H) (by omega) hnd hin) ?_
  rintro _ w ⟨s, A', c', Lf, rfl, hbest, hxl, hOF, Hc⟩
  refine ⟨_, rfl, ?_⟩
  replace H := SH.call (L1 := [_, _]) (Lv := []) H Hc
  clear Hc
  have hlen := fndV_len m l ts ns hd rt s A' c'
  have hok : (fndV m l ts ns hd rt s A' c')[3]? = some (.bool s.isSome) := by cases s <;> rfl
  refine OPS.alloc rfl rfl rfl rfl (zero_run rfl) rfl H ?_
  clear H; intro g9 w H
  refine OPS.store (vs := fndV m l ts ns hd rt s A' c') 0 _ rfl rfl rfl (size_run rfl) rfl (cA rfl) hlen (fndV_one m l ts ns hd rt s A' c') H rfl (by simp) ?_
  clear H; intro w H
  replace H : SH w0 [] w (⟨g9, 49, putL (fndV m l ts ns hd rt none none 0) 0 (fndV m l ts ns hd rt s A' c')⟩ :: _) := H
  rw [fndV_put] at H
  simp only [List.cons_append, List.nil_append] at H
  refine OPS.nil ?_
  refine WP.seq ?_
  refine WP.seq ?_
  refine WP.region ?_
  refine OPS.val rfl rfl rfl (Ev.fieldAddr (fld_run rfl) rfl) ?_
  refine OPS.val rfl rfl rfl (Ev.load1 (agg_run rfl) rfl (H.ldL 0 rfl 3 hok)) ?_
  refine OPS.val rfl rfl rfl (Ev.not rfl) ?_
  refine OPS.nil ?_
  refine WP.cond rfl (fun hc5 => ?_) (fun hc5 => ?_)
  · refine WP.seq ?_
    refine WP.region ?_
    refine OPS.val rfl rfl rfl (Ev.build (bld_34_ (e := fun _ => .int .i64 0))) ?_
    refine OPS.store 1 _ rfl rfl rfl (size_run rfl) rfl (cA rfl) rfl rfl H rfl (by simp) ?_
    clear H; intro w H; try simp only [List.set_cons_zero, List.set_cons_succ, putL, Nat.zero_add] at H
    refine OPS.val rfl rfl rfl (Ev.asI rfl) ?_
    refine OPS.nil ?_
    refine WP.ret ⟨[_, _], ⟨(by exact resCellA 1 H rfl (agg_run rfl) (size_run rfl) (by rfl) rfl), rfl, trivial⟩, ?_⟩
    have hs : s = none := by simpa using hc5
    subst hs
    exact ⟨_, _, [], none, 0, [], rfl, .empty h0 hbest, OwnS.nil, H.drop (List.nil_sublist _)⟩
  obtain ⟨x, rfl⟩ : ∃ x, s = some x := Option.isSome_iff_exists.1 (by simpa using hc5)
  refine WP.skip ?_
  refine WP.seq ?_
  refine WP.region ?_
  refine OPS.val rfl rfl rfl (Ev.mvI rfl) ?_
  refine OPS.val rfl rfl rfl (Ev.fieldAddr (fld_run rfl) rfl) ?_
  refine OPS.val rfl rfl rfl (Ev.load1 (agg_run rfl) rfl (by exact H.ldL 0 rfl _ rfl)) ?_
  refine OPS.val rfl rfl rfl (Ev.build (bld_34_0_1 rfl rfl)) ?_
  refine OPS.store 1 _ rfl rfl rfl (size_run rfl) rfl (cA rfl) rfl rfl H rfl (by simp) ?_
  clear H; intro w H; try simp only [List.set_cons_zero, List.set_cons_succ, putL, Nat.zero_add] at H
  refine OPS.val rfl rfl rfl (Ev.asI rfl) ?_
  refine OPS.nil ?_
  refine WP.ret ⟨[_, _], ⟨(by exact resCellA 1 H rfl (agg_run rfl) (size_run rfl) (by rfl) rfl), rfl, trivial⟩, ?_⟩
  exact ⟨_, _, x, A', c', Lf, rfl, .ok h0 x hbest, hOF, H.drop ((((List.Sublist.refl _).cons _).cons _).cons _)⟩
end Go.Proofs.Ytfddebpeiilohaa

/-
  Walks: Most, Moved.
-/
set_option linter.all false
namespace Go.Proofs.Ytfddebpeiilohaa
open Go Go.W Go.RowKit

section
variable {P : Program} {e : Env} {w : World} {ty t : TypeId} {x y : Operand}
theorem Ev.shl1 {t' : TypeId} {j : Nat} (hx : ev e x = .int .i64 1) (hy : ev e y = .int .i64 j) (h : j ≤ 62) : Ev P e w ty (.binOp .shl t x y t') (.int .i64 ((2 ^ j : Nat) : Int)) :=
  Ev.bin hx hy fun w => by
    have h1 : (2 : Nat) ^ j ≤ 4611686018427387904 := Nat.le_trans (Nat.pow_le_pow_right (by decide) h) (by decide)
    have h2 : ((2 ^ j : Nat) : Int) ≤ 4611686018427387904 := Int.ofNat_le.2 h1
    have h3 : (0 : Int) ≤ ((2 ^ j : Nat) : Int) := Int.natCast_nonneg _
    have h4 : (1 : Int) * 2 ^ ((j : Int)).toNat = ((2 ^ j : Nat) : Int) := by rw [Int.toNat_natCast, Int.one_mul, Int.natCast_pow]; rfl
    rw [binOp_shl, shift_shl _ _ _ _ (by omega) (show ((j : Nat) : Int) ≤ ((64 : Nat) : Int) by omega), h4, wrap_fits (by unfold fits; omega)]
    rfl
theorem Ev.shrN {t' : TypeId} {a j : Nat} (hx : ev e x = .int .i64 a) (hy : ev e y = .int .i64 j) (h : j ≤ 62) : Ev P e w ty (.binOp .shr t x y t') (.int .i64 ((a / 2 ^ j : Nat) : Int)) :=
  Ev.bin hx hy fun w => by
    rw [binOp_shr, shift_shr _ _ _ _ (by omega) (show ((j : Nat) : Int) ≤ ((64 : Nat) : Int) by omega)]
    simp
theorem i64_and1 (n : Int) : bits .and .i64 n 1 = n % 2 := by
  have h127 : (BitVec.ofInt 64 1).toNat = 2 ^ 1 - 1 := by decide
  have key : (BitVec.ofInt 64 n &&& BitVec.ofInt 64 1).toNat = (n % ((2 ^ 64 : Nat) : Int)).toNat % 2 ^ 1 := by
    rw [BitVec.toNat_and, BitVec.toNat_ofInt, h127, Nat.and_two_pow_sub_one_eq_mod]
  show IntKind.i64.wrap ((BitVec.ofInt 64 n &&& BitVec.ofInt 64 1).toNat : Nat) = n % 2
  rw [key, IntKind.wrap_i64]
  omega
theorem Ev.and1 {t' : TypeId} {a : Nat} (hx : ev e x = .int .i64 a) (hy : ev e y = .int .i64 1) : Ev P e w ty (.binOp .and t x y t') (.int .i64 ((a % 2 : Nat) : Int)) :=
  Ev.bin hx hy fun w => by
    rw [binOp_and, intBits_and, i64_and1]
    simp
end
noncomputable def movedE (n : Int) (l : List Edg) (ts : List Truck) (ns : List Need) (hd : Int) (rn : List Int) : Int :=
  if nightErr n l ts ns hd ≠ 0 then nightErr n l ts ns hd else if rn.any (outB ns.length) = true then 7 else 0
noncomputable def movedV (n : Int) (l : List Edg) (ts : List Truck) (ns : List Need) (hd : Int) (rn : List Int) : Int := if movedE n l ts ns hd rn = 0 then mvL ns rn else 0
theorem outB_or (k : Nat) (i : Int) : outB k i = (decide (i < 0) || decide ((k : Int) ≤ i)) := by
  unfold outB inB
  rw [Bool.eq_iff_iff]; simp; omega
set_option maxHeartbeats 4000000 in
theorem routeMovedX (n hd : Int) (A B C R : Option Addr) (l : List Edg) (ts : List Truck) (ns : List Need) (rn : List Int) (ca cb cc cr : Nat) (w0 : World) (hz : EdgsAt w0 A l) (ht : RowsAt 4 truckCells w0 B ts) (hn : RowsAt 2 needCells w0 C ns) (hcc : ns.length ≤ cc) (hr : IntsAt w0 R rn) (hrl : rn.length ≤ 1000) :
    Calls Try.prog 16 #[.agg #[I n, .slice A l.length ca, .slice B ts.length cb, .slice C ns.length cc, I hd], .slice R rn.length cr] w0 fun e w' => e = .returned (.tuple #[I (movedV n l ts ns hd rn), I (movedE n l ts ns hd rn)]) ∧ Below w0.heap.size w0 w' := by
  have H := SH.refl w0
  refine Calls.ofWP Try.func16 rfl Try.results16 Try.ntmps16 rfl ?_
  refine WP.seq ?_
  refine WP.region ?_
  refine OPS.box rfl rfl rfl rfl (cA rfl) H ?_
  clear H; intro g2 w H
  refine OPS.val rfl rfl rfl (Ev.asI rfl) ?_
  refine OPS.val rfl rfl rfl (Ev.asI rfl) ?_
  refine OPS.nil ?_
  refine WP.seq ?_
  refine WP.seq ?_
  refine WP.region ?_
  refine OPS.val rfl rfl rfl ((by exact Ev.loadO 0 H rfl (agg_run rfl) (size_run rfl) (by rfl) rfl)) ?_
  refine OPS.call (d := some 10) rfl rfl rfl (EvC.func (fun_run rfl)) (truckCheck n hd A B C l ts ns ca cb cc w (hz.sh H) (ht.sh H) (hn.sh H) hcc) ?_
  rintro _ w ⟨rfl, hb⟩
  refine ⟨_, rfl, ?_⟩
  replace H := H.toBelow hb; clear hb
  refine OPS.val rfl rfl rfl (Ev.asI rfl) ?_
  refine OPS.nil ?_
  refine WP.seq ?_
  refine WP.region ?_
  refine OPS.val rfl rfl rfl (Ev.mvI rfl) ?_
  refine OPS.val rfl rfl rfl (Ev.neq rfl rfl) ?_
  refine OPS.nil ?_
  refine WP.cond rfl (fun hc2 => ?_) (fun hc2 => ?_)
  · refine WP.seq ?_
    refine WP.region ?_
    refine OPS.val rfl rfl rfl (Ev.mvI rfl) ?_
    refine OPS.val rfl rfl rfl (Ev.asI rfl) ?_
    refine OPS.val rfl rfl rfl (Ev.asI rfl) ?_
    refine OPS.nil ?_
    refine WP.ret ⟨_, rfl, ?_⟩
    have h : nightErr n l ts ns hd ≠ 0 := by simpa using hc2
    have he : movedE n l ts ns hd rn = nightErr n l ts ns hd := if_pos h
    exact ⟨by rw [movedV, he, if_neg h]; rfl, H.below⟩
  have h0 : nightErr n l ts ns hd = 0 := by simpa using hc2
  obtain ⟨m, rfl, hN⟩ := nightOk_of h0
  have hm : ∀ x ∈ ns, -32 ≤ x.move ∧ x.move ≤ 32 := fun x hx => (hN.nd x hx).2.2
  have hnl := hN.nl
  have he0 : movedE m l ts ns hd rn = if rn.any (outB ns.length) = true then 7 else 0 := if_neg (by simp [h0])
  refine WP.skip ?_
  refine WP.seq ?_
  refine WP.seq ?_
  refine WP.region ?_
  refine OPS.val rfl rfl rfl (Ev.mvS rfl) ?_
  refine OPS.val rfl rfl rfl (Ev.len (el_run rfl) rfl) ?_
  refine OPS.val rfl rfl rfl (Ev.mvI rfl) ?_
  refine OPS.nil ?_
  refine WP.block ?_
  refine WP.loop [4, 5, 8, 16, 17, 18, 19, 20, 21, 22, 23, 24, 25, 26, 27, 28, 29] (fun k e w' => ∃ (j : Nat), j + k = rn.length ∧ e 16 = I j ∧ (∀ i ∈ rn.take j, outB ns.length i = false) ∧ SH w0 [] w' [⟨g2, 28, [I m, .slice A l.length ca, .slice B ts.length cb, .slice C ns.length cc, I hd]⟩]) (rn.length) (⟨0, by omega, rfl, by simp, H⟩) ?_
  clear H
  rintro k u w ⟨j, hk, h16, hall, H⟩
  refine WP.know (t := 16) h16 ?_
  refine WP.seq ?_
  refine WP.region ?_
  refine OPS.val rfl rfl rfl (Ev.lss rfl rfl) ?_
  refine OPS.nil ?_
  refine WP.seq ?_
  refine WP.cond rfl (fun hc5 => ?_) (fun hc5 => ?_)
  · have hlt : j < rn.length := by simpa using hc5
    obtain ⟨br, orr, rfl, hx⟩ := hr j hlt
    have ho := outB_or ns.length rn[j]
    have htk := List.take_succ_eq_append_getElem hlt
    refine WP.skip ?_
    refine WP.seq ?_
    refine WP.block ?_
    refine WP.seq ?_
    refine WP.region ?_
    refine OPS.val rfl rfl rfl ((by exact Ev.indexAddr1 (el_run rfl) (size_run rfl) rfl rfl rfl (by omega))) ?_
    refine OPS.val rfl rfl rfl (Ev.load1 (agg_run rfl) rfl (by exact H.ld0 (by assumption))) ?_
    refine OPS.val rfl rfl rfl (Ev.asI rfl) ?_
    refine OPS.nil ?_
    refine WP.seq ?_
    refine WP.region ?_
    refine OPS.val rfl rfl rfl (Ev.mvI rfl) ?_
    refine OPS.val rfl rfl rfl (Ev.lss rfl rfl) ?_
    refine OPS.val rfl rfl rfl (Ev.mvB rfl) ?_
    refine OPS.gval rfl rfl rfl rfl rfl (fun hg => Ev.mvI (by rfl)) ?_
    refine OPS.gval rfl rfl rfl rfl rfl (fun hg => Ev.fieldAddr (fld_run rfl) (by rfl)) ?_
    refine OPS.gval rfl rfl rfl rfl rfl (fun hg => Ev.load1 (agg_run rfl) (by exact gvE hg rfl) (by exact H.ldL 0 rfl _ rfl)) ?_
    refine OPS.gval rfl rfl rfl rfl rfl (fun hg => Ev.len (el_run rfl) (by exact gvE hg rfl)) ?_
    refine OPS.gval rfl rfl rfl rfl rfl (fun hg => Ev.geq (by exact gvE hg rfl) (by exact gvE hg rfl)) ?_
    refine OPS.val rfl rfl rfl ((by exact Ev.pickOr rfl rfl rfl)) ?_
    refine OPS.nil ?_
    refine WP.cond rfl (fun hc7 => ?_) (fun hc7 => ?_)
    · refine WP.seq ?_
      refine WP.region ?_
      refine OPS.val rfl rfl rfl (Ev.asI rfl) ?_
      refine OPS.val rfl rfl rfl (Ev.asI rfl) ?_
      refine OPS.nil ?_
      refine WP.ret ⟨_, rfl, ?_⟩
      have h : outB ns.length rn[j] = true := by rw [ho]; simpa using hc7
      have he : movedE m l ts ns hd rn = 7 := by rw [he0, if_pos (List.any_eq_true.2 ⟨_, List.getElem_mem hlt, h⟩)]
      exact ⟨by rw [movedV, he, if_neg (by decide)]; rfl, H.below⟩
    have h : outB ns.length rn[j] = false := by rw [ho]; simpa using hc7
    refine WP.skip ?_
    refine WP.region ?_
    refine OPS.val rfl rfl rfl (Ev.add rfl rfl (by unfold fits; omega)) ?_
    refine OPS.val rfl rfl rfl (Ev.mvI rfl) ?_
    refine OPS.nil ?_
    exact ⟨(by repeat (first | exact Agree.refl _ _ | exact Agree.mix _ _ _ | refine Agree.upd rfl ?_ | refine Agree.mix2 rfl ?_)), k - 1, by omega, j + 1, by omega, rfl, (fun i hi => by
      rw [htk, List.mem_append, List.mem_singleton] at hi
      rcases hi with hi | rfl
      · exact hall i hi
      · exact h), H⟩
  have hj : j = rn.length := by simp at hc5; omega
  subst hj
  rw [List.take_length] at hall
  have he : movedE m l ts ns hd rn = 0 := by rw [he0, if_neg (by rw [List.any_eq_true]; rintro ⟨i, h1, h2⟩; rw [hall i h1] at h2; cases h2)]
  have hin : ∀ i ∈ rn, 0 ≤ i ∧ i < ns.length := fun i hi => by
    have := hall i hi
    rw [outB_or] at this
    simp at this; omega
  refine WP.exit ?_
  refine XB.hit ?_
  refine WP.seq ?_
  refine WP.region ?_
  refine OPS.val rfl rfl rfl ((by exact Ev.loadO 0 H rfl (agg_run rfl) (size_run rfl) (by rfl) rfl)) ?_
  refine OPS.val rfl rfl rfl (Ev.mvS rfl) ?_
  refine OPS.call (d := some 32) rfl rfl rfl (EvC.func (fun_run rfl)) (routeMoved m hd A B C R l ts ns rn ca cb cc cr w (hn.sh H) hm (hr.sh H) hrl hin) ?_
  rintro _ w ⟨rfl, hb⟩
  refine ⟨_, rfl, ?_⟩
  replace H := H.toBelow hb; clear hb
  refine OPS.val rfl rfl rfl (Ev.asI rfl) ?_
  refine OPS.val rfl rfl rfl (Ev.asI rfl) ?_
  refine OPS.nil ?_
  refine WP.ret ⟨_, rfl, ?_⟩
  exact ⟨by rw [movedV, he, if_pos rfl]; rfl, H.below⟩
end Go.Proofs.Ytfddebpeiilohaa

/-
  Walk: Most.
-/
set_option linter.all false
namespace Go.Proofs.Ytfddebpeiilohaa
open Go Go.W Go.RowKit

theorem pickS_take {rn : List Int} {j i : Nat} (h : j < rn.length) : pickS (rn.take (j + 1)) i = pickS (rn.take j) i ++ if (i / 2 ^ j) % 2 = 1 then [rn[j]] else [] := by
  rw [List.take_succ_eq_append_getElem h, pickS_snoc, List.length_take, Nat.min_eq_left (by omega)]
section
variable (n : Int) (l : List Edg) (ts : List Truck) (ns : List Need) (hd rt : Int) (rn : List Int)
def UpTo (j : Nat) (o : List Int) : Prop := ∃ i, i < j ∧ o.Perm (pickS rn i) ∧ walkE n l ts ns hd rt o = 0
theorem bet_or {m d : List Int → Int} (s s2 : Option (List Int)) : bet m d s s2 = s ∨ bet m d s s2 = s2 := by
  cases s with
  | none => exact .inr rfl
  | some x =>
    cases s2 with
    | none => exact .inl rfl
    | some y =>
      by_cases h : worse m d x y
      · exact .inr (if_pos h)
      · exact .inl (if_neg h)
theorem bet_none {m d : List Int → Int} (s : Option (List Int)) : bet m d s none = s := by cases s <;> rfl
end
set_option maxHeartbeats 4000000 in
theorem routeMostX (n hd rt : Int) (A B C R : Option Addr) (l : List Edg) (ts : List Truck) (ns : List Need) (rn : List Int) (ca cb cc cr : Nat) (w0 : World) (hz : EdgsAt w0 A l) (ht : RowsAt 4 truckCells w0 B ts) (hn : RowsAt 2 needCells w0 C ns) (hcc : ns.length ≤ cc) (hr : IntsAt w0 R rn) (hrl : rn.length ≤ 1000) :
    Calls Try.prog 14 #[.agg #[I n, .slice A l.length ca, .slice B ts.length cb, .slice C ns.length cc, I hd], I rt, .slice R rn.length cr] w0 fun e w' => ∃ (er r0 : Int) (x : List Int) (X : Option Addr) (c : Nat) (Lf : List Blk), e = .returned (.tuple #[.agg #[I r0, .slice X x.length c], I er]) ∧ MostAns n l ts ns hd rt rn er r0 x ∧ OwnS X c x.length (x.map I) 3 1 Lf ∧ SH w0 [] w' Lf := by
  have H := SH.refl w0
  refine Calls.ofWPc Try.func14 rfl Try.results14 Try.ntmps14 rfl ?_
  refine WP.seq ?_
  refine WP.region ?_
  refine OPS.box rfl rfl rfl rfl (cA rfl) H ?_
  clear H; intro g3 w H
  refine OPS.alloc rfl rfl rfl rfl (zero_run rfl) rfl H ?_
  clear H; intro g6 w H
  refine OPS.val rfl rfl rfl (Ev.asI rfl) ?_
  refine OPS.nil ?_
  refine WP.seq ?_
  refine WP.seq ?_
  refine WP.region ?_
  refine OPS.val rfl rfl rfl ((by exact Ev.loadO 1 H rfl (agg_run rfl) (size_run rfl) (by rfl) rfl)) ?_
  refine OPS.val rfl rfl rfl (Ev.mvI rfl) ?_
  refine OPS.val rfl rfl rfl (Ev.mvS rfl) ?_
  refine OPS.call (d := some 18) rfl rfl rfl (EvC.func (fun_run rfl)) (routeCheck n hd rt A B C R l ts ns rn ca cb cc cr w (hz.sh H) (ht.sh H) (hn.sh H) hcc (hr.sh H) hrl) ?_
  rintro _ w ⟨rfl, hb⟩
  refine ⟨_, rfl, ?_⟩
  replace H := H.toBelow hb; clear hb
  refine OPS.val rfl rfl rfl (Ev.asI rfl) ?_
  refine OPS.nil ?_
  refine WP.seq ?_
  refine WP.region ?_
  refine OPS.val rfl rfl rfl (Ev.mvI rfl) ?_
  refine OPS.val rfl rfl rfl (Ev.neq rfl rfl) ?_
  refine OPS.nil ?_
  refine WP.cond rfl (fun hc2 => ?_) (fun hc2 => ?_)
  · refine WP.seq ?_
    refine WP.region ?_
    refine OPS.val rfl rfl rfl (Ev.build (bld_34_ (e := fun _ => .int .i64 0))) ?_
    refine OPS.val rfl rfl rfl (Ev.mvI rfl) ?_
    refine OPS.store 0 _ rfl rfl rfl (size_run rfl) rfl (cA rfl) rfl rfl H rfl (by simp) ?_
    clear H; intro w H; try simp only [List.set_cons_zero, List.set_cons_succ, putL, Nat.zero_add] at H
    refine OPS.val rfl rfl rfl (Ev.asI rfl) ?_
    refine OPS.nil ?_
    refine WP.ret ⟨[_, _], ⟨(by exact resCellA 0 H rfl (agg_run rfl) (size_run rfl) (by rfl) rfl), rfl, trivial⟩, ?_⟩
    have h : askErr n l ts ns hd rt rn ≠ 0 := by simpa using hc2
    exact ⟨_, _, [], none, 0, [], rfl, .no h, OwnS.nil, H.drop (List.nil_sublist _)⟩
  have h0 : askErr n l ts ns hd rt rn = 0 := by simpa using hc2
  obtain ⟨hN0, hR0, hl6⟩ := ask_ok h0
  obtain ⟨m, rfl, hN⟩ := nightOk_of hN0
  obtain ⟨_, hin, hnd, _⟩ := routeOk_of hR0
  have hm : ∀ x ∈ ns, -32 ≤ x.move ∧ x.move ≤ 32 := fun x hx => (hN.nd x hx).2.2
  have h64 : 2 ^ rn.length ≤ 64 := Nat.pow_le_pow_right (n := 2) (by decide) hl6
  refine WP.skip ?_
  refine WP.seq ?_
  refine WP.region ?_
  refine OPS.alloc rfl rfl rfl rfl (zero_run rfl) rfl H ?_
  clear H; intro g9 w H
  refine OPS.nil ?_
  refine WP.seq ?_
  refine WP.seq ?_
  refine WP.region ?_
  refine OPS.val rfl rfl rfl (Ev.mvS rfl) ?_
  refine OPS.val rfl rfl rfl (Ev.len (el_run rfl) rfl) ?_
  refine OPS.val rfl rfl rfl (Ev.shl1 rfl rfl (by omega)) ?_
  refine OPS.val rfl rfl rfl (Ev.mvI rfl) ?_
  refine OPS.nil ?_
  refine WP.block ?_
  refine WP.loop [10, 11, 12, 13, 14, 26, 27, 28, 29, 30, 31, 32, 33, 34, 35, 36, 37, 38, 39, 40, 41, 42, 43, 44, 45, 46, 47, 48, 49, 50, 51, 52, 53, 54, 55] (fun k e w' => ∃ (j : Nat) (s : Option (List Int)) (A' : Option Addr) (c' : Nat) (Lf : List Blk), j + k = 2 ^ rn.length ∧ e 26 = I j ∧ IsBest (mvL ns) (secsD m l ts ns hd rt) (UpTo m l ts ns hd rt rn j) s ∧ (∀ x, s = some x → x.length ≤ 1000) ∧ OwnF s A' c' Lf ∧ SH w0 [] w' ([⟨g9, 49, fndV m l ts ns hd rt s A' c'⟩, ⟨g6, 34, [I 0, .slice none 0 0]⟩, ⟨g3, 28, [I m, .slice A l.length ca, .slice B ts.length cb, .slice C ns.length cc, I hd]⟩] ++ Lf)) ((2 ^ rn.length)) (⟨0, none, none, 0, [], by omega, rfl, (fun o => by rintro ⟨i, hi, _⟩; omega), (fun x hx => absurd hx (by simp)), rfl, H⟩) ?_
  clear H
  rintro k u w ⟨j, s, A', c', Lf, hk, h26, hbest, hxl, hOF, H⟩
  refine WP.know (t := 26) h26 ?_
  refine WP.seq ?_
  refine WP.region ?_
  refine OPS.val rfl rfl rfl (Ev.lss rfl rfl) ?_
  refine OPS.nil ?_
  refine WP.seq ?_
  refine WP.cond rfl (fun hc6 => ?_) (fun hc6 => ?_)
  · have hlt : j < 2 ^ rn.length := by
      have h : (j : Int) < ((2 ^ rn.length : Nat) : Int) := by simpa using hc6
      omega
    refine WP.skip ?_
    refine WP.seq ?_
    refine WP.block ?_
    refine WP.seq ?_
    refine WP.region ?_
    refine OPS.val rfl rfl rfl (Ev.mvI rfl) ?_
    refine OPS.val rfl rfl rfl (Ev.asI rfl) ?_
    refine OPS.nil ?_
    refine WP.seq ?_
    refine WP.region ?_
    refine OPS.val rfl rfl rfl (Ev.asS rfl) ?_
    refine OPS.nil ?_
    refine WP.seq ?_
    refine WP.seq ?_
    refine WP.region ?_
    refine OPS.val rfl rfl rfl (Ev.mvS rfl) ?_
    refine OPS.val rfl rfl rfl (Ev.len (el_run rfl) rfl) ?_
    refine OPS.val rfl rfl rfl (Ev.mvI rfl) ?_
    refine OPS.nil ?_
    refine WP.block ?_
    refine WP.loop [11, 12, 13, 31, 32, 33, 34, 35, 36, 37, 38, 39, 40, 41, 42, 43, 44, 45] (fun k e w' => ∃ (i : Nat) (X : Option Addr) (cx : Nat) (Lx : List Blk), i + k = rn.length ∧ e 31 = I i ∧ e 11 = .slice X (pickS (rn.take i) j).length cx ∧ OwnS X cx (pickS (rn.take i) j).length ((pickS (rn.take i) j).map I) 3 1 Lx ∧ SH w0 [] w' (([⟨g9, 49, fndV m l ts ns hd rt s A' c'⟩, ⟨g6, 34, [I 0, .slice none 0 0]⟩, ⟨g3, 28, [I m, .slice A l.length ca, .slice B ts.length cb, .slice C ns.length cc, I hd]⟩] ++ Lf) ++ Lx)) (rn.length) (⟨0, none, 0, [], by omega, rfl, rfl, OwnS.nil, by rw [List.append_nil]; exact H⟩) ?_
    clear H
    rintro k2 u2 w ⟨i, X, cx, Lx, hk2, h31, h11, hOX, H⟩
    refine WP.know (t := 31) h31 (WP.know (t := 11) h11 ?_)
    refine WP.seq ?_
    refine WP.region ?_
    refine OPS.val rfl rfl rfl (Ev.lss rfl rfl) ?_
    refine OPS.nil ?_
    refine WP.seq ?_
    refine WP.cond rfl (fun hc10 => ?_) (fun hc10 => ?_)
    · have hil : i < rn.length := by simpa using hc10
      obtain ⟨br, orr, rfl, hx⟩ := hr i hil
      have hpk := pickS_take (i := j) hil
      have hpl : (pickS (rn.take i) j).length ≤ i := by
        have := (pickS_sub (rn.take i) j).length_le
        rw [List.length_take] at this; omega
      refine WP.skip ?_
      refine WP.seq ?_
      refine WP.block ?_
      refine WP.seq ?_
      refine WP.region ?_
      refine OPS.val rfl rfl rfl (Ev.mvI rfl) ?_
      refine OPS.val rfl rfl rfl ((by exact Ev.indexAddr1 (el_run rfl) (size_run rfl) rfl rfl rfl (by omega))) ?_
      refine OPS.val rfl rfl rfl (Ev.load1 (agg_run rfl) rfl (by exact H.ld0 (by assumption))) ?_
      refine OPS.val rfl rfl rfl (Ev.asI rfl) ?_
      refine OPS.val rfl rfl rfl (Ev.asI rfl) ?_
      refine OPS.nil ?_
      refine WP.seq ?_
      refine WP.region ?_
      refine OPS.val rfl rfl rfl (Ev.mvI rfl) ?_
      refine OPS.val rfl rfl rfl (Ev.mvI rfl) ?_
      refine OPS.val rfl rfl rfl (Ev.shrN rfl rfl (by omega)) ?_
      refine OPS.val rfl rfl rfl (Ev.and1 rfl rfl) ?_
      refine OPS.val rfl rfl rfl (Ev.eql rfl rfl) ?_
      refine OPS.nil ?_
      refine WP.cond rfl (fun hc12 => ?_) (fun hc12 => ?_)
      · have hbit : (j / 2 ^ i) % 2 = 1 := by
          have h : (((j / 2 ^ i) % 2 : Nat) : Int) = 1 := by simpa using hc12
          omega
        rw [if_pos hbit] at hpk
        refine WP.region ?_
        refine OPS.val rfl rfl rfl (Ev.mvS rfl) ?_
        refine OPS.val rfl rfl rfl (Ev.mvI rfl) ?_
        refine OPS.buildSlice rfl rfl rfl rfl (bsl_29_1_0 rfl) H ?_
        clear H; intro g43 w H
        refine OPS.append (m := 1) (news := [I rn[i]]) (R := ⟨g43, 3, [I rn[i]]⟩ :: ([⟨g9, 49, fndV m l ts ns hd rt s A' c'⟩, ⟨g6, 34, [I 0, .slice none 0 0]⟩, ⟨g3, 28, [I m, .slice A l.length ca, .slice B ts.length cb, .slice C ns.length cc, I hd]⟩] ++ Lf)) rfl rfl rfl rfl rfl (sl_run rfl) rfl rfl hOX rfl (src_own H 0 rfl) rfl (by omega) (by unfold maxLen; omega) H (List.Perm.refl _) ?_
        clear H hOX; intro X cx Lx w hOX H
        replace H := H.drop (List.sublist_cons_self _ _)
        refine OPS.val rfl rfl rfl (Ev.asS rfl) ?_
        refine OPS.nil ?_
        refine WP.region ?_
        refine OPS.val rfl rfl rfl (Ev.add rfl rfl (by unfold fits; omega)) ?_
        refine OPS.val rfl rfl rfl (Ev.mvI rfl) ?_
        refine OPS.nil ?_
        first
          | exact ⟨(by repeat (first | exact Agree.refl _ _ | exact Agree.mix _ _ _ | refine Agree.upd rfl ?_ | refine Agree.mix2 rfl ?_)), k2 - 1, by omega, i + 1, X, cx, Lx, by omega, rfl, by rw [hpk, List.length_append]; rfl, by rw [hpk, List.length_append, List.map_append]; exact hOX, H⟩
          | exact ⟨(by repeat (first | exact Agree.refl _ _ | exact Agree.mix _ _ _ | refine Agree.upd rfl ?_ | refine Agree.mix2 rfl ?_)), k2 - 1, by omega, i + 1, X, cx, Lx, by omega, rfl, by rw [hpk]; rfl, by rw [hpk]; exact hOX, H⟩
      have hbit : ¬ (j / 2 ^ i) % 2 = 1 := by
        have h : ¬ (((j / 2 ^ i) % 2 : Nat) : Int) = 1 := by simpa using hc12
        omega
      rw [if_neg hbit, List.append_nil] at hpk
      refine WP.skip ?_
      refine WP.region ?_
      refine OPS.val rfl rfl rfl (Ev.add rfl rfl (by unfold fits; omega)) ?_
      refine OPS.val rfl rfl rfl (Ev.mvI rfl) ?_
      refine OPS.nil ?_
      first
        | exact ⟨(by repeat (first | exact Agree.refl _ _ | exact Agree.mix _ _ _ | refine Agree.upd rfl ?_ | refine Agree.mix2 rfl ?_)), k2 - 1, by omega, i + 1, X, cx, Lx, by omega, rfl, by rw [hpk, List.length_append]; rfl, by rw [hpk, List.length_append, List.map_append]; exact hOX, H⟩
        | exact ⟨(by repeat (first | exact Agree.refl _ _ | exact Agree.mix _ _ _ | refine Agree.upd rfl ?_ | refine Agree.mix2 rfl ?_)), k2 - 1, by omega, i + 1, X, cx, Lx, by omega, rfl, by rw [hpk]; rfl, by rw [hpk]; exact hOX, H⟩
    have hi : i = rn.length := by simp at hc10; omega
    subst hi
    rw [List.take_length] at hOX
    rw [List.take_length]
    have hys := pickS_sub rn j
    have hyl := hys.length_le
    have hynd : (pickS rn j).Nodup := hnd.sublist hys
    have hyin : ∀ i ∈ pickS rn j, 0 ≤ i ∧ i < ns.length := fun i hi => hin i (hys.subset hi)
    refine WP.exit ?_
    refine XB.hit ?_
    refine WP.seq ?_
    refine WP.region ?_
    refine OPS.val rfl rfl rfl ((by exact Ev.loadO 2 H rfl (agg_run rfl) (size_run rfl) (by rfl) rfl)) ?_
    refine OPS.val rfl rfl rfl (Ev.mvI rfl) ?_
    refine OPS.val rfl rfl rfl (Ev.mvS rfl) ?_
    refine OPS.call (d := some 49) rfl rfl rfl (EvC.func (fun_run rfl)) (routeBest m hd rt A B C X l ts ns (pickS rn j) ca cb cc cx w (hz.sh H) (ht.sh H) (hn.sh H) hcc hm hN.nl (hOX.ones H).1 (by omega) hynd hyin) ?_
    rintro _ w ⟨s2, A2, c2, L2, rfl, hb2, hxl2, hOF2, Hc⟩
    refine ⟨_, rfl, ?_⟩
    replace H := SH.call (L1 := _) (Lv := []) (by rw [List.append_nil]; exact H.drop (List.sublist_append_left _ Lx)) Hc
    clear Hc
    have hlen2 := fndV_len m l ts ns hd rt s2 A2 c2
    have hok2 : (fndV m l ts ns hd rt s2 A2 c2)[3]? = some (.bool s2.isSome) := by cases s2 <;> rfl
    have hb3 : IsBest (mvL ns) (secsD m l ts ns hd rt) (UpTo m l ts ns hd rt rn (j + 1)) (bet (mvL ns) (secsD m l ts ns hd rt) s s2) := (hbest.union hb2).congr fun o => by
      constructor
      · rintro (⟨i, h1, h2⟩ | h)
        · exact ⟨i, by omega, h2⟩
        · exact ⟨j, by omega, h⟩
      · rintro ⟨i, h1, h2⟩
        by_cases h : i = j
        · subst h; exact .inr h2
        · exact .inl ⟨i, by omega, h2⟩
    have hxl3 : ∀ x, bet (mvL ns) (secsD m l ts ns hd rt) s s2 = some x → x.length ≤ 1000 := fun x hx => by
      rcases bet_or (m := mvL ns) (d := secsD m l ts ns hd rt) s s2 with h | h
      · exact hxl x (h ▸ hx)
      · exact hxl2 x (h ▸ hx)
    refine OPS.alloc rfl rfl rfl rfl (zero_run rfl) rfl H ?_
    clear H; intro g14 w H
    refine OPS.store (vs := fndV m l ts ns hd rt s2 A2 c2) 0 _ rfl rfl rfl (size_run rfl) rfl (cA rfl) hlen2 (fndV_one m l ts ns hd rt s2 A2 c2) H rfl (by simp) ?_
    clear H; intro w H
    replace H : SH w0 [] w (⟨g14, 49, putL (fndV m l ts ns hd rt none none 0) 0 (fndV m l ts ns hd rt s2 A2 c2)⟩ :: _) := H
    rw [fndV_put] at H
    refine OPS.nil ?_
    refine WP.seq ?_
    refine WP.region ?_
    refine OPS.val rfl rfl rfl (Ev.fieldAddr (fld_run rfl) rfl) ?_
    refine OPS.val rfl rfl rfl (Ev.load1 (agg_run rfl) rfl (H.ldL 0 rfl 3 hok2)) ?_
    refine OPS.nil ?_
    refine WP.cond rfl (fun hc16 => ?_) (fun hc16 => ?_)
    · obtain ⟨y, rfl⟩ : ∃ y, s2 = some y := Option.isSome_iff_exists.1 (by simpa using hc16)
      refine WP.region ?_
      refine OPS.val rfl rfl rfl (Ev.loadO 1 H rfl (agg_run rfl) (size_run rfl) (fndV_len m l ts ns hd rt s A' c') rfl) ?_
      refine OPS.val rfl rfl rfl (Ev.loadO 0 H rfl (agg_run rfl) (size_run rfl) hlen2 rfl) ?_
      refine OPS.call (d := some 54) rfl rfl rfl (EvC.func (fun_run rfl)) (betterO m l ts ns hd rt s A' c' A2 y c2 w (fun x hx => ⟨by subst hx; exact (OwnS.ones hOF (H.drop ((List.sublist_append_left _ L2).trans (List.sublist_cons_self _ _)))).1, hxl x hx⟩) (OwnS.ones hOF2 (H.drop (List.sublist_cons_self _ _))).1 (hxl2 y rfl)) ?_
      rintro _ w ⟨rfl, hb⟩
      refine ⟨_, rfl, ?_⟩
      replace H := H.toBelow hb; clear hb
      refine OPS.store (vs := fndV m l ts ns hd rt (bet (mvL ns) (secsD m l ts ns hd rt) s (some y)) (if takesB m l ts ns hd rt s y = true then A2 else A') (if takesB m l ts ns hd rt s y = true then c2 else c')) 1 _ rfl rfl rfl (size_run rfl) rfl (cA rfl) (fndV_len m l ts ns hd rt _ _ _) (fndV_one m l ts ns hd rt _ _ _) H rfl (by rw [fndV_len]; exact Nat.le_refl _) ?_
      clear H; intro w H
      replace H : SH w0 [] w (⟨g14, 49, _⟩ :: ⟨g9, 49, putL (fndV m l ts ns hd rt s A' c') 0 (fndV m l ts ns hd rt (bet (mvL ns) (secsD m l ts ns hd rt) s (some y)) (if takesB m l ts ns hd rt s y = true then A2 else A') (if takesB m l ts ns hd rt s y = true then c2 else c'))⟩ :: ⟨g6, 34, [I 0, .slice none 0 0]⟩ :: ⟨g3, 28, [I m, .slice A l.length ca, .slice B ts.length cb, .slice C ns.length cc, I hd]⟩ :: (Lf ++ L2)) := H
      rw [fndV_put] at H
      replace H := H.drop (List.sublist_cons_self _ _)
      obtain ⟨A3, c3, L3, hO3, H3⟩ : ∃ A3 c3 L3, OwnF (bet (mvL ns) (secsD m l ts ns hd rt) s (some y)) A3 c3 L3 ∧ SH w0 [] w ([⟨g9, 49, fndV m l ts ns hd rt (bet (mvL ns) (secsD m l ts ns hd rt) s (some y)) A3 c3⟩, ⟨g6, 34, [I 0, .slice none 0 0]⟩, ⟨g3, 28, [I m, .slice A l.length ca, .slice B ts.length cb, .slice C ns.length cc, I hd]⟩] ++ L3) := by
        rw [takes_bet] at H ⊢
        by_cases htk : takesB m l ts ns hd rt s y = true
        · rw [if_pos htk, if_pos htk, if_pos htk] at H
          rw [if_pos htk]
          exact ⟨A2, c2, L2, hOF2, H.drop ((((List.sublist_append_right Lf L2).cons_cons _).cons_cons _).cons_cons _)⟩
        · rw [if_neg htk, if_neg htk, if_neg htk] at H
          rw [if_neg htk]
          exact ⟨A', c', Lf, hOF, H.drop ((((List.sublist_append_left Lf L2).cons_cons _).cons_cons _).cons_cons _)⟩
      refine OPS.nil ?_
      refine WP.region ?_
      refine OPS.val rfl rfl rfl (Ev.add rfl rfl (by unfold fits; omega)) ?_
      refine OPS.val rfl rfl rfl (Ev.mvI rfl) ?_
      refine OPS.nil ?_
      exact ⟨(by repeat (first | exact Agree.refl _ _ | exact Agree.mix _ _ _ | refine Agree.upd rfl ?_ | refine Agree.mix2 rfl ?_)), k - 1, by omega, j + 1, _, A3, c3, L3, by omega, rfl, hb3, hxl3, hO3, H3⟩
    obtain rfl : s2 = none := by simpa using hc16
    obtain ⟨A3, c3, L3, hO3, H3⟩ : ∃ A3 c3 L3, OwnF (bet (mvL ns) (secsD m l ts ns hd rt) s none) A3 c3 L3 ∧ SH w0 [] w ([⟨g9, 49, fndV m l ts ns hd rt (bet (mvL ns) (secsD m l ts ns hd rt) s none) A3 c3⟩, ⟨g6, 34, [I 0, .slice none 0 0]⟩, ⟨g3, 28, [I m, .slice A l.length ca, .slice B ts.length cb, .slice C ns.length cc, I hd]⟩] ++ L3) := by
      rw [bet_none]
      exact ⟨A', c', Lf, hOF, H.drop ((List.sublist_append_left _ L2).trans (List.sublist_cons_self _ _))⟩
    refine WP.skip ?_
    refine WP.region ?_
    refine OPS.val rfl rfl rfl (Ev.add rfl rfl (by unfold fits; omega)) ?_
    refine OPS.val rfl rfl rfl (Ev.mvI rfl) ?_
    refine OPS.nil ?_
    exact ⟨(by repeat (first | exact Agree.refl _ _ | exact Agree.mix _ _ _ | refine Agree.upd rfl ?_ | refine Agree.mix2 rfl ?_)), k - 1, by omega, j + 1, _, A3, c3, L3, by omega, rfl, hb3, hxl3, hO3, H3⟩
  have hj : j = 2 ^ rn.length := by
    have h : ¬ (j : Int) < ((2 ^ rn.length : Nat) : Int) := by simpa using hc6
    omega
  subst hj
  have hbest' : IsBest (mvL ns) (secsD m l ts ns hd rt) (SubP m l ts ns hd rt rn) s := hbest.congr fun o => by
    constructor
    · rintro ⟨i, h1, h2, h3⟩
      have hs := pickS_sub rn i
      exact ⟨⟨h2.nodup_iff.2 (hnd.sublist hs), fun x hx => hs.subset (h2.mem_iff.1 hx)⟩, h3⟩
    · rintro ⟨⟨h1, h2⟩, h3⟩
      obtain ⟨i, h4, h5⟩ := part_of hnd h1 h2
      exact ⟨i, h4, h5, h3⟩
  obtain ⟨x, X, c, hxe, hfd, hOx⟩ : ∃ (x : List Int) (X : Option Addr) (c : Nat), s.getD [] = x ∧ (fndV m l ts ns hd rt s A' c')[0]? = some (.slice X x.length c) ∧ OwnS X c x.length (x.map I) 3 1 Lf := by
    cases s with
    | none => obtain rfl : Lf = [] := hOF; exact ⟨[], none, 0, rfl, rfl, OwnS.nil⟩
    | some x => exact ⟨x, A', c', rfl, rfl, hOF⟩
  refine WP.exit ?_
  refine XB.hit ?_
  refine WP.seq ?_
  refine WP.region ?_
  refine OPS.val rfl rfl rfl (Ev.mvI rfl) ?_
  refine OPS.val rfl rfl rfl (Ev.fieldAddr (fld_run rfl) rfl) ?_
  refine OPS.val rfl rfl rfl (Ev.load1 (agg_run rfl) rfl (H.ldL 0 rfl 0 hfd)) ?_
  refine OPS.val rfl rfl rfl (Ev.build (bld_34_0_1 rfl rfl)) ?_
  refine OPS.store 1 _ rfl rfl rfl (size_run rfl) rfl (cA rfl) rfl rfl H rfl (by simp) ?_
  clear H; intro w H; try simp only [List.set_cons_zero, List.set_cons_succ, putL, Nat.zero_add] at H
  refine OPS.val rfl rfl rfl (Ev.asI rfl) ?_
  refine OPS.nil ?_
  refine WP.ret ⟨[_, _], ⟨(by exact resCellA 1 H rfl (agg_run rfl) (size_run rfl) (by rfl) rfl), rfl, trivial⟩, ?_⟩
  exact ⟨_, _, x, X, c, Lf, rfl, by rw [← hxe]; exact .ok h0 s hbest', hOx, H.drop ((((List.Sublist.refl _).cons _).cons _).cons _)⟩
end Go.Proofs.Ytfddebpeiilohaa
