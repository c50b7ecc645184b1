/-
  Walk: the network of a task.
-/
import Derived.Test.YtgjfjbphngamgaaB1
import Derived.Test.YtgjfjbphngamgaaBM4
set_option linter.all false
namespace Go.Proofs.Ytgjfjbphngamgaa
open Go Go.W Go.RowKit

def netL (N : Int) (A : Option Addr) (k c : Nat) : List Value := [I N, .slice A k c]
theorem netArc (N f t cp cst : Int) (g k c : Nat) (A : Option Addr) (l : List Flo.Arc) (Lo : List Blk) (S : List Nat) (w0 : World) (hk : k ≤ 100000) (hO : OwnS A c k (l.flatMap Flo.arcCells) 96 4 Lo) (H0 : SH w0 S w0 ([(⟨g, 76, netL N A k c⟩ : Blk)] ++ Lo)) :
    Calls Try.prog 56 #[I f, I t, I cp, I cst, .pointer (some ⟨g, 0, none⟩)] w0 fun e w' => ∃ (A' : Option Addr) (c' : Nat) (Lo' : List Blk), e = .returned (.tuple #[]) ∧ OwnS A' c' (k + 1) ((l ++ [(⟨f, t, cp, cst⟩ : Flo.Arc)]).flatMap Flo.arcCells) 96 4 Lo' ∧ SH w0 S w' ([(⟨g, 76, netL N A' (k + 1) c'⟩ : Blk)] ++ Lo') := by
  have H := H0
  unfold netL at H
  refine Calls.ofWP Try.func56 rfl Try.results56 Try.ntmps56 rfl ?_
  refine WP.region ?_
  refine OPS.val rfl rfl rfl (Ev.fieldAddr (fld_run rfl) rfl) ?_
  refine OPS.val rfl rfl rfl (Ev.load1 (agg_run rfl) rfl (by exact H.ldL 0 rfl _ rfl)) ?_
  refine OPS.val rfl rfl rfl (Ev.mvI rfl) ?_
  refine OPS.val rfl rfl rfl (Ev.mvI rfl) ?_
  refine OPS.val rfl rfl rfl (Ev.mvI rfl) ?_
  refine OPS.val rfl rfl rfl (Ev.mvI rfl) ?_
  refine OPS.val rfl rfl rfl (Ev.build (bld_96_0_1_2_3 rfl rfl rfl rfl)) ?_
  refine OPS.buildSlice rfl rfl rfl rfl (bsl_74_1_0 rfl) H ?_
  clear H; intro g16 w H
  refine OPS.append (m := 1) (news := [I f, I t, I cp, I cst]) (R := [⟨g16, 96, [I f, I t, I cp, I cst]⟩, ⟨g, 76, [I N, .slice A k c]⟩]) rfl rfl rfl rfl rfl (sl_run rfl) rfl rfl hO rfl (src_own H 0 rfl) rfl (by omega) (by unfold maxLen; omega) H (List.Perm.refl _) ?_
  clear H hO; intro A' c' Lo' w hO H
  simp only [List.cons_append, List.nil_append] at H
  refine OPS.val rfl rfl rfl (Ev.fieldAddr (fld_run rfl) rfl) ?_
  refine OPS.store 1 _ rfl rfl rfl (size_run rfl) rfl (cS rfl) rfl rfl H rfl (by simp) ?_
  clear H; intro w H; try simp only [List.set_cons_zero, List.set_cons_succ, putL, Nat.zero_add] at H
  refine OPS.nil ?_
  refine ⟨_, rfl, ?_⟩
  exact ⟨A', c', Lo', rfl, (by rw [List.flatMap_append]; simpa [Flo.arcCells] using hO), H.drop (List.sublist_cons_self _ _)⟩
/-- what the network's makers know of a task -/
structure TaskOk (cs bs : List Need) (rs : List (SlA Int)) : Prop where
  cl : cs.length ≤ 16
  bl : bs.length ≤ 16
  rl : rs.length = cs.length
  row : ∀ r ∈ rs, r.l.length = bs.length
  cm : ∀ x ∈ cs, -32 ≤ x.move ∧ x.move ≤ 32
  bm : ∀ x ∈ bs, -32 ≤ x.move ∧ x.move ≤ 32
def netOf (cs bs : List Need) (rs : List (SlA Int)) : List Flo.Arc := Flo.colArcs (1 + cs.length) 1 (cs.map (·.move)) (rs.map (·.l)) ++ Flo.brArcs (cs.length + bs.length + 1) (1 + cs.length) (bs.map fun x => -x.move)
theorem nw1 {g c d : Blk} : (g :: [c, d]).Perm ([c, d] ++ ([g] ++ [])) := perm_by fun f => by simp <;> omega
set_option maxRecDepth 20000 in
set_option maxHeartbeats 4000000 in
theorem boundNetwork (Ac Ab At : Option Addr) (cs bs : List Need) (rs : List (SlA Int)) (kc kb kt : Nat) (cp hv wt : Int) (w0 : World) (hT : TaskAt w0 Ac Ab At cs bs rs) (hK : TaskOk cs bs rs) :
    Calls Try.prog 40 #[.agg (tskC Ac Ab At cs.length bs.length rs.length kc kb kt cp hv wt).toArray] w0 fun e w' => ∃ (A : Option Addr) (cap : Nat) (L : List Blk), e = .returned (.agg #[I (cs.length + bs.length + 1 + 1), .slice A (netOf cs bs rs).length cap]) ∧ Reads L (fun w => Flo.ArcsAt w A (netOf cs bs rs)) ∧ SH w0 [] w' L := by
  have H := SH.refl w0
  have hcl := hK.cl
  have hbl := hK.bl
  have hrl := hK.rl
  have hrows : ∀ r ∈ rs.map (·.l), r.length ≤ 16 := fun r hr => by
    obtain ⟨q, hq, rfl⟩ := List.mem_map.1 hr
    rw [hK.row q hq]; exact hbl
  obtain ⟨N, hNe⟩ : ∃ N : Int, N = cs.length + bs.length + 1 + 1 := ⟨_, rfl⟩
  obtain ⟨C, hC⟩ : ∃ C : List Int, C = cs.map (·.move) := ⟨_, rfl⟩
  obtain ⟨D, hD⟩ : ∃ D : List Int, D = bs.map fun x => -x.move := ⟨_, rfl⟩
  obtain ⟨tm, htm⟩ : ∃ tm : List (List Int), tm = rs.map (·.l) := ⟨_, rfl⟩
  have hCl : C.length = cs.length := by rw [hC]; simp
  have hDl : D.length = bs.length := by rw [hD]; simp
  have htl : tm.length = rs.length := by rw [htm]; simp
  rw [← htm] at hrows
  have hclen : ∀ j, (Flo.colArcs (1 + cs.length) 1 (C.take j) (tm.take j)).length ≤ 272 := fun j => by
    have h1 := Flo.col_len (K := 16) (1 + cs.length) (C.take j) (tm.take j) 1 (fun r hr => hrows r (List.mem_of_mem_take hr))
    have h2 : (C.take j).length ≤ C.length := List.length_take_le' _ _
    omega
  refine Calls.ofWPc Try.func40 rfl Try.results40 Try.ntmps40 rfl ?_
  refine WP.seq ?_
  refine WP.region ?_
  refine OPS.box rfl rfl rfl rfl (cA rfl) H ?_
  clear H; intro g1 w H
  refine OPS.alloc rfl rfl rfl rfl (zero_run rfl) rfl H ?_
  clear H; intro g2 w H
  refine OPS.nil ?_
  refine WP.seq ?_
  refine WP.region ?_
  refine OPS.val rfl rfl rfl (Ev.fieldAddr (fld_run rfl) rfl) ?_
  refine OPS.val rfl rfl rfl (Ev.load1 (agg_run rfl) rfl (by exact H.ldL 1 rfl _ rfl)) ?_
  refine OPS.val rfl rfl rfl (Ev.len (el_run rfl) rfl) ?_
  refine OPS.val rfl rfl rfl (Ev.fieldAddr (fld_run rfl) rfl) ?_
  refine OPS.val rfl rfl rfl (Ev.load1 (agg_run rfl) rfl (by exact H.ldL 1 rfl _ rfl)) ?_
  refine OPS.val rfl rfl rfl (Ev.len (el_run rfl) rfl) ?_
  refine OPS.val rfl rfl rfl (Ev.add rfl rfl (by unfold fits; omega)) ?_
  refine OPS.val rfl rfl rfl (Ev.add rfl rfl (by unfold fits; omega)) ?_
  refine OPS.val rfl rfl rfl (Ev.asI rfl) ?_
  refine OPS.nil ?_
  refine WP.seq ?_
  refine WP.region ?_
  refine OPS.val rfl rfl rfl (Ev.mvI rfl) ?_
  refine OPS.val rfl rfl rfl (Ev.add rfl rfl (by unfold fits; omega)) ?_
  refine OPS.val rfl rfl rfl (Ev.build (bld_76_0 rfl)) ?_
  refine OPS.alloc rfl rfl rfl rfl (zero_run rfl) rfl H ?_
  clear H; intro g4 w H
  refine OPS.store 0 _ rfl rfl rfl (size_run rfl) rfl (cA rfl) rfl rfl H rfl (by simp) ?_
  clear H; intro w H; try simp only [List.set_cons_zero, List.set_cons_succ, putL, Nat.zero_add] at H
  refine OPS.nil ?_
  unfold tskC at H
  rw [← hNe] at H
  refine WP.seq ?_
  refine WP.region ?_
  refine OPS.val rfl rfl rfl (Ev.makeFunc) ?_
  refine OPS.val rfl rfl rfl (Ev.asF rfl) ?_
  refine OPS.nil ?_
  refine WP.seq ?_
  refine WP.seq ?_
  refine WP.region ?_
  refine OPS.val rfl rfl rfl (Ev.fieldAddr (fld_run rfl) rfl) ?_
  refine OPS.val rfl rfl rfl (Ev.load1 (agg_run rfl) rfl (by exact H.ldL 2 rfl _ rfl)) ?_
  refine OPS.val rfl rfl rfl (Ev.len (el_run rfl) rfl) ?_
  refine OPS.val rfl rfl rfl (Ev.mvI rfl) ?_
  refine OPS.nil ?_
  refine WP.block ?_
  refine WP.loop [6, 7, 8, 9, 27, 28, 29, 30, 31, 32, 33, 34, 35, 36, 37, 38, 39, 40, 41, 42, 43, 44, 45, 46, 47, 48, 49, 50, 51, 52, 53, 54, 55, 56, 57, 58, 59, 60, 61, 62, 63] (fun k e w' => ∃ (j : Nat) (A : Option Addr) (c : Nat) (Lo : List Blk), j + k = cs.length ∧ e 27 = I j ∧ OwnS A c (Flo.colArcs (1 + cs.length) 1 (C.take j) (tm.take j)).length ((Flo.colArcs (1 + cs.length) 1 (C.take j) (tm.take j)).flatMap Flo.arcCells) 96 4 Lo ∧ SH w0 [] w' ([⟨g2, 76, [I 0, .slice none 0 0]⟩, ⟨g1, 60, tskC Ac Ab At cs.length bs.length rs.length kc kb kt cp hv wt⟩] ++ ([⟨g4, 76, netL N A (Flo.colArcs (1 + cs.length) 1 (C.take j) (tm.take j)).length c⟩] ++ Lo))) (cs.length) (⟨0, none, 0, [], by omega, rfl, (by rw [List.take_zero]; exact OwnS.nil), (by rw [List.take_zero]; exact H.perm nw1)⟩) ?_
  clear H
  rintro k u w ⟨j, A, c, Lo, hk, h27, hO, H⟩
  refine WP.know (t := 27) h27 ?_
  refine WP.seq ?_
  refine WP.region ?_
  refine OPS.val rfl rfl rfl (Ev.lss rfl rfl) ?_
  refine OPS.nil ?_
  refine WP.seq ?_
  refine WP.cond rfl (fun hc5 => ?_) (fun hc5 => ?_)
  · have hlt : j < cs.length := by simpa using hc5
    obtain ⟨b, o, rfl, hc⟩ := hT.c j hlt
    have hc' := cellsAt_sh H hc
    obtain ⟨r, hre⟩ : ∃ r, r = rs[j]'(by omega) := ⟨_, rfl⟩
    have hrm : r ∈ rs := by rw [hre]; exact List.getElem_mem _
    have hrI := hT.r r hrm
    have hrb := hK.row r hrm
    obtain ⟨bt, ot, rfl, hxt⟩ := hT.t j (by omega)
    rw [← hre] at hxt
    have eT : tm[j]'(by omega) = r.l := by simp [htm, hre]
    clear hre hrm
    obtain ⟨rA, rc, rl⟩ := r
    simp only [slV] at hxt hrI hrb eT
    have hmx := hK.cm cs[j] (List.getElem_mem hlt)
    obtain ⟨nx, hnx⟩ : ∃ nx, nx = cs[j] := ⟨_, rfl⟩
    rw [← hnx] at hmx hc hc'
    have hcl2 := hclen j
    have eC : C[j]'(by omega) = nx.move := by simp [hC, hnx]
    have hct := Flo.col_take (g := 1 + cs.length) (i := 1) (C := C) (tm := tm) (j := j) (by omega) (by omega)
    rw [eC, eT] at hct
    obtain ⟨l0, hl0⟩ : ∃ l0, l0 = Flo.colArcs (1 + cs.length) 1 (C.take j) (tm.take j) := ⟨_, rfl⟩
    rw [← hl0] at hO H hct hcl2
    refine WP.skip ?_
    refine WP.seq ?_
    refine WP.block ?_
    refine WP.seq ?_
    refine WP.region ?_
    refine OPS.val rfl rfl rfl (Ev.mvI rfl) ?_
    refine OPS.val rfl rfl rfl ((by exact Ev.indexAddr (el_run rfl) (size_run rfl) rfl rfl rfl (by omega))) ?_
    refine OPS.val rfl rfl rfl (Ev.loadN (needCells nx) (agg_run rfl) (size_run rfl) rfl hc') ?_
    refine OPS.alloc rfl rfl rfl rfl (zero_run rfl) rfl H ?_
    clear H; intro g7 w H
    refine OPS.val rfl rfl rfl (Ev.asI rfl) ?_
    refine OPS.store 0 _ rfl rfl rfl (size_run rfl) rfl (cA rfl) rfl rfl H rfl (by simp) ?_
    clear H; intro w H; try simp only [List.set_cons_zero, List.set_cons_succ, putL, Nat.zero_add] at H
    refine OPS.nil ?_
    refine WP.seq ?_
    clear hc'
    unfold needCells at H
    simp only [putL, List.set_cons_zero, List.set_cons_succ] at H
    refine WP.region ?_
    refine OPS.val rfl rfl rfl (Ev.mvF rfl) ?_
    refine OPS.val rfl rfl rfl (Ev.mvI rfl) ?_
    refine OPS.val rfl rfl rfl (Ev.add rfl rfl (by unfold fits; omega)) ?_
    refine OPS.val rfl rfl rfl (Ev.fieldAddr (fld_run rfl) rfl) ?_
    refine OPS.val rfl rfl rfl (Ev.load1 (agg_run rfl) rfl (by exact H.ldL 0 rfl _ rfl)) ?_
    refine OPS.call (d := some 37) rfl rfl rfl (EvC.clos rfl (fun_run (by rfl))) (netArc N 0 (1 + j) nx.move 0 g4 l0.length c A l0 Lo _ w (by omega) hO (H.restart (Lv := [_] ++ Lo) (List.sublist_append_right [_, _, _] _))) ?_
    rintro _ w ⟨A2, c2, Lo2, rfl, hO2, Hc⟩
    refine ⟨_, rfl, ?_⟩
    replace H := SH.call (L1 := [_, _, _]) (Lv := [_] ++ Lo) H Hc
    clear Hc hO
    refine OPS.nil ?_
    refine WP.seq ?_
    refine WP.region ?_
    refine OPS.val rfl rfl rfl (Ev.fieldAddr (fld_run rfl) rfl) ?_
    refine OPS.val rfl rfl rfl (Ev.load1 (agg_run rfl) rfl (by exact H.ldL 2 rfl _ rfl)) ?_
    refine OPS.val rfl rfl rfl (Ev.mvI rfl) ?_
    refine OPS.val rfl rfl rfl ((by exact Ev.indexAddr1 (el_run rfl) (size_run rfl) rfl rfl rfl (by omega))) ?_
    refine OPS.val rfl rfl rfl (Ev.load1 (agg_run rfl) rfl (by exact H.ld0 (by assumption))) ?_
    refine OPS.val rfl rfl rfl (Ev.len (el_run rfl) rfl) ?_
    refine OPS.val rfl rfl rfl (Ev.mvI rfl) ?_
    refine OPS.nil ?_
    refine WP.block ?_
    refine WP.loop [8, 9, 44, 45, 46, 47, 48, 49, 50, 51, 52, 53, 54, 55, 56, 57, 58, 59, 60, 61, 62] (fun k e w' => ∃ (q : Nat) (A : Option Addr) (c : Nat) (Lo : List Blk), q + k = bs.length ∧ e 44 = I q ∧ OwnS A c (l0 ++ ((⟨0, 1 + j, nx.move, 0⟩ : Flo.Arc) :: Flo.rowArcs (1 + j) (1 + cs.length) (rl.take q))).length ((l0 ++ ((⟨0, 1 + j, nx.move, 0⟩ : Flo.Arc) :: Flo.rowArcs (1 + j) (1 + cs.length) (rl.take q))).flatMap Flo.arcCells) 96 4 Lo ∧ SH w0 [] w' ([⟨g7, 48, [I nx.node, I nx.move]⟩, ⟨g2, 76, [I 0, .slice none 0 0]⟩, ⟨g1, 60, tskC (some ⟨b, o, none⟩) Ab (some ⟨bt, ot, none⟩) cs.length bs.length rs.length kc kb kt cp hv wt⟩] ++ ([⟨g4, 76, netL N A (l0 ++ ((⟨0, 1 + j, nx.move, 0⟩ : Flo.Arc) :: Flo.rowArcs (1 + j) (1 + cs.length) (rl.take q))).length c⟩] ++ Lo))) (bs.length) (⟨0, A2, c2, Lo2, by omega, rfl, (by rw [List.take_zero]; simpa [Flo.rowArcs] using hO2), (by rw [List.take_zero]; simpa [Flo.rowArcs] using H)⟩) ?_
    clear H hO2
    rintro k2 u2 w ⟨q, A3, c3, Lo3, hk2, h44, hO3, H⟩
    refine WP.know (t := 44) h44 ?_
    have hrl2 := Flo.row_len (1 + j) (rl.take q) (1 + cs.length)
    have hrl3 : (rl.take q).length ≤ rl.length := List.length_take_le' _ _
    obtain ⟨l1, hl1⟩ : ∃ l1, l1 = l0 ++ ((⟨0, 1 + j, nx.move, 0⟩ : Flo.Arc) :: Flo.rowArcs (1 + j) (1 + cs.length) (rl.take q)) := ⟨_, rfl⟩
    have hl1n : l1.length ≤ 300 := by rw [hl1]; simp; omega
    rw [← hl1] at hO3 H
    refine WP.seq ?_
    refine WP.region ?_
    refine OPS.val rfl rfl rfl (Ev.lss rfl rfl) ?_
    refine OPS.nil ?_
    refine WP.seq ?_
    refine WP.cond rfl (fun hc9 => ?_) (fun hc9 => ?_)
    · have hlt2 : q < rl.length := by simp at hc9; omega
      obtain ⟨br, orr, rfl, hx3⟩ := hrI q hlt2
      have hrt := Flo.row_take (f := 1 + j) (g := 1 + cs.length) (r := rl) (k := q) hlt2
      obtain ⟨x, hx⟩ : ∃ x, x = rl[q] := ⟨_, rfl⟩
      rw [← hx] at hx3 hrt
      refine WP.skip ?_
      refine WP.seq ?_
      refine WP.block ?_
      refine WP.seq ?_
      refine WP.region ?_
      refine OPS.val rfl rfl rfl (Ev.mvI rfl) ?_
      refine OPS.val rfl rfl rfl ((by exact Ev.indexAddr1 (el_run rfl) (size_run rfl) rfl rfl rfl (by omega))) ?_
      refine OPS.val rfl rfl rfl (Ev.load1 (agg_run rfl) rfl (by exact H.ld0 (by assumption))) ?_
      refine OPS.val rfl rfl rfl (Ev.asI rfl) ?_
      refine OPS.val rfl rfl rfl (Ev.asI rfl) ?_
      refine OPS.nil ?_
      refine WP.seq ?_
      refine WP.region ?_
      refine OPS.val rfl rfl rfl (Ev.mvI rfl) ?_
      refine OPS.val rfl rfl rfl (Ev.geq rfl rfl) ?_
      refine OPS.nil ?_
      refine WP.cond rfl (fun hc11 => ?_) (fun hc11 => ?_)
      · have hx0 : 0 ≤ x := by simpa using hc11
        rw [if_pos hx0] at hrt
        have hl2 : l0 ++ ((⟨0, 1 + j, nx.move, 0⟩ : Flo.Arc) :: Flo.rowArcs (1 + j) (1 + cs.length) (rl.take (q + 1))) = l1 ++ [(⟨1 + j, 1 + cs.length + q, 65536, x⟩ : Flo.Arc)] := by rw [hl1, hrt]; simp
        refine WP.region ?_
        refine OPS.val rfl rfl rfl (Ev.mvF rfl) ?_
        refine OPS.val rfl rfl rfl (Ev.mvI rfl) ?_
        refine OPS.val rfl rfl rfl (Ev.add rfl rfl (by unfold fits; omega)) ?_
        refine OPS.val rfl rfl rfl (Ev.fieldAddr (fld_run rfl) rfl) ?_
        refine OPS.val rfl rfl rfl (Ev.load1 (agg_run rfl) rfl (by exact H.ldL 2 rfl _ rfl)) ?_
        refine OPS.val rfl rfl rfl (Ev.len (el_run rfl) rfl) ?_
        refine OPS.val rfl rfl rfl (Ev.add rfl rfl (by unfold fits; omega)) ?_
        refine OPS.val rfl rfl rfl (Ev.mvI rfl) ?_
        refine OPS.val rfl rfl rfl (Ev.add rfl rfl (by unfold fits; omega)) ?_
        refine OPS.val rfl rfl rfl (Ev.mvI rfl) ?_
        refine OPS.call (d := some 61) rfl rfl rfl (EvC.clos rfl (fun_run (by rfl))) (netArc N (1 + j) (1 + cs.length + q) 65536 x g4 l1.length c3 A3 l1 Lo3 _ w (by omega) hO3 (H.restart (Lv := [_] ++ Lo3) (List.sublist_append_right [_, _, _] _))) ?_
        rintro _ w ⟨A4, c4, Lo4, rfl, hO4, Hc⟩
        refine ⟨_, rfl, ?_⟩
        replace H := SH.call (L1 := [_, _, _]) (Lv := [_] ++ Lo3) H Hc
        clear Hc hO3
        have hl3 : (l1 ++ [(⟨1 + j, 1 + cs.length + q, 65536, x⟩ : Flo.Arc)]).length = l1.length + 1 := by simp
        rw [← hl3, ← hl2] at hO4 H
        refine OPS.nil ?_
        refine WP.region ?_
        refine OPS.val rfl rfl rfl (Ev.add rfl rfl (by unfold fits; omega)) ?_
        refine OPS.val rfl rfl rfl (Ev.mvI rfl) ?_
        refine OPS.nil ?_
        exact ⟨(by repeat (first | exact Agree.refl _ _ | exact Agree.mix _ _ _ | refine Agree.upd rfl ?_ | refine Agree.mix2 rfl ?_)), k2 - 1, by omega, q + 1, A4, c4, Lo4, by omega, rfl, hO4, H⟩
      have hx0 : ¬ 0 ≤ x := by simpa using hc11
      rw [if_neg hx0, List.append_nil] at hrt
      have hl2 : l1 = l0 ++ ((⟨0, 1 + j, nx.move, 0⟩ : Flo.Arc) :: Flo.rowArcs (1 + j) (1 + cs.length) (rl.take (q + 1))) := by rw [hl1, hrt]
      obtain ⟨A4, c4, Lo4, e4, e5, e6⟩ : ∃ A4 c4 Lo4, A4 = A3 ∧ c4 = c3 ∧ Lo4 = Lo3 := ⟨_, _, _, rfl, rfl, rfl⟩
      rw [← e4, ← e5, ← e6, hl2] at H
      have hO4 := hO3
      rw [← e4, ← e5, ← e6, hl2] at hO4
      refine WP.skip ?_
      refine WP.region ?_
      refine OPS.val rfl rfl rfl (Ev.add rfl rfl (by unfold fits; omega)) ?_
      refine OPS.val rfl rfl rfl (Ev.mvI rfl) ?_
      refine OPS.nil ?_
      exact ⟨(by repeat (first | exact Agree.refl _ _ | exact Agree.mix _ _ _ | refine Agree.upd rfl ?_ | refine Agree.mix2 rfl ?_)), k2 - 1, by omega, q + 1, A4, c4, Lo4, by omega, rfl, hO4, H⟩
    refine WP.exit ?_
    refine XB.hit ?_
    refine WP.region ?_
    refine OPS.val rfl rfl rfl (Ev.add rfl rfl (by unfold fits; omega)) ?_
    refine OPS.val rfl rfl rfl (Ev.mvI rfl) ?_
    refine OPS.nil ?_
    have hq : q = rl.length := by simp at hc9; omega
    rw [hq, List.take_length, ← hct] at hl1
    rw [hl1] at hO3 H
    exact ⟨(by repeat (first | exact Agree.refl _ _ | exact Agree.mix _ _ _ | refine Agree.upd rfl ?_ | refine Agree.mix2 rfl ?_)), k - 1, by omega, j + 1, A3, c3, Lo3, by omega, rfl, hO3, H.drop (List.sublist_cons_self _ _)⟩
  have hj : j = cs.length := by simp at hc5; omega
  subst hj
  rw [List.take_of_length_le (show C.length ≤ cs.length by omega), List.take_of_length_le (show tm.length ≤ cs.length by omega)] at hO H
  have hcl2 := hclen cs.length
  rw [List.take_of_length_le (show C.length ≤ cs.length by omega), List.take_of_length_le (show tm.length ≤ cs.length by omega)] at hcl2
  obtain ⟨l0, hl0⟩ : ∃ l0, l0 = Flo.colArcs (1 + cs.length) 1 C tm := ⟨_, rfl⟩
  rw [← hl0] at hO H hcl2
  refine WP.exit ?_
  refine XB.hit ?_
  refine WP.seq ?_
  refine WP.seq ?_
  refine WP.region ?_
  refine OPS.val rfl rfl rfl (Ev.fieldAddr (fld_run rfl) rfl) ?_
  refine OPS.val rfl rfl rfl (Ev.load1 (agg_run rfl) rfl (by exact H.ldL 1 rfl _ rfl)) ?_
  refine OPS.val rfl rfl rfl (Ev.len (el_run rfl) rfl) ?_
  refine OPS.val rfl rfl rfl (Ev.mvI rfl) ?_
  refine OPS.nil ?_
  refine WP.block ?_
  refine WP.loop [10, 11, 67, 68, 69, 70, 71, 72, 73, 74, 75, 76, 77, 78, 79, 80, 81, 82, 83, 84] (fun k e w' => ∃ (q : Nat) (A : Option Addr) (c : Nat) (Lo : List Blk), q + k = bs.length ∧ e 67 = I q ∧ OwnS A c (l0 ++ Flo.brArcs (cs.length + bs.length + 1) (1 + cs.length) (D.take q)).length ((l0 ++ Flo.brArcs (cs.length + bs.length + 1) (1 + cs.length) (D.take q)).flatMap Flo.arcCells) 96 4 Lo ∧ SH w0 [] w' ([⟨g2, 76, [I 0, .slice none 0 0]⟩, ⟨g1, 60, tskC Ac Ab At cs.length bs.length rs.length kc kb kt cp hv wt⟩] ++ ([⟨g4, 76, netL N A (l0 ++ Flo.brArcs (cs.length + bs.length + 1) (1 + cs.length) (D.take q)).length c⟩] ++ Lo))) (bs.length) (⟨0, A, c, Lo, by omega, rfl, (by rw [List.take_zero]; simpa [Flo.brArcs] using hO), (by rw [List.take_zero]; simpa [Flo.brArcs] using H)⟩) ?_
  clear H hO
  rintro k2 u2 w ⟨q, A3, c3, Lo3, hk2, h67, hO3, H⟩
  refine WP.know (t := 67) h67 ?_
  have hbl2 := Flo.br_len (cs.length + bs.length + 1) (D.take q) (1 + cs.length)
  have hbl3 : (D.take q).length ≤ D.length := List.length_take_le' _ _
  obtain ⟨l1, hl1⟩ : ∃ l1, l1 = l0 ++ Flo.brArcs (cs.length + bs.length + 1) (1 + cs.length) (D.take q) := ⟨_, rfl⟩
  have hl1n : l1.length ≤ 300 := by rw [hl1]; simp; omega
  rw [← hl1] at hO3 H
  refine WP.seq ?_
  refine WP.region ?_
  refine OPS.val rfl rfl rfl (Ev.lss rfl rfl) ?_
  refine OPS.nil ?_
  refine WP.seq ?_
  refine WP.cond rfl (fun hc16 => ?_) (fun hc16 => ?_)
  · have hlt2 : q < bs.length := by simpa using hc16
    obtain ⟨b, o, rfl, hc⟩ := hT.b q hlt2
    have hc' := cellsAt_sh H hc
    have hmx := hK.bm bs[q] (List.getElem_mem hlt2)
    obtain ⟨ny, hny⟩ : ∃ ny, ny = bs[q] := ⟨_, rfl⟩
    rw [← hny] at hmx hc hc'
    have eD : D[q]'(by omega) = -ny.move := by simp [hD, hny]
    have hbt := Flo.br_take (last := cs.length + bs.length + 1) (g := 1 + cs.length) (D := D) (k := q) (by omega)
    rw [eD] at hbt
    have hl2 : l0 ++ Flo.brArcs (cs.length + bs.length + 1) (1 + cs.length) (D.take (q + 1)) = l1 ++ [(⟨1 + cs.length + q, cs.length + bs.length + 1, -ny.move, 0⟩ : Flo.Arc)] := by rw [hl1, hbt, List.append_assoc]
    refine WP.skip ?_
    refine WP.seq ?_
    refine WP.block ?_
    refine WP.seq ?_
    refine WP.region ?_
    refine OPS.val rfl rfl rfl (Ev.mvI rfl) ?_
    refine OPS.val rfl rfl rfl ((by exact Ev.indexAddr (el_run rfl) (size_run rfl) rfl rfl rfl (by omega))) ?_
    refine OPS.val rfl rfl rfl (Ev.loadN (needCells ny) (agg_run rfl) (size_run rfl) rfl hc') ?_
    refine OPS.alloc rfl rfl rfl rfl (zero_run rfl) rfl H ?_
    clear H; intro g11 w H
    refine OPS.val rfl rfl rfl (Ev.asI rfl) ?_
    refine OPS.store 0 _ rfl rfl rfl (size_run rfl) rfl (cA rfl) rfl rfl H rfl (by simp) ?_
    clear H; intro w H; try simp only [List.set_cons_zero, List.set_cons_succ, putL, Nat.zero_add] at H
    refine OPS.nil ?_
    clear hc'
    unfold needCells at H
    simp only [putL, List.set_cons_zero, List.set_cons_succ] at H
    refine WP.region ?_
    refine OPS.val rfl rfl rfl (Ev.mvF rfl) ?_
    refine OPS.val rfl rfl rfl (Ev.fieldAddr (fld_run rfl) rfl) ?_
    refine OPS.val rfl rfl rfl (Ev.load1 (agg_run rfl) rfl (by exact H.ldL 2 rfl _ rfl)) ?_
    refine OPS.val rfl rfl rfl (Ev.len (el_run rfl) rfl) ?_
    refine OPS.val rfl rfl rfl (Ev.add rfl rfl (by unfold fits; omega)) ?_
    refine OPS.val rfl rfl rfl (Ev.mvI rfl) ?_
    refine OPS.val rfl rfl rfl (Ev.add rfl rfl (by unfold fits; omega)) ?_
    refine OPS.val rfl rfl rfl (Ev.mvI rfl) ?_
    refine OPS.val rfl rfl rfl (Ev.fieldAddr (fld_run rfl) rfl) ?_
    refine OPS.val rfl rfl rfl (Ev.load1 (agg_run rfl) rfl (by exact H.ldL 0 rfl _ rfl)) ?_
    refine OPS.val rfl rfl rfl (Ev.neg rfl (by unfold fits; omega)) ?_
    refine OPS.call (d := some 83) rfl rfl rfl (EvC.clos rfl (fun_run (by rfl))) (netArc N (1 + cs.length + q) (cs.length + bs.length + 1) (-ny.move) 0 g4 l1.length c3 A3 l1 Lo3 _ w (by omega) hO3 (H.restart (Lv := [_] ++ Lo3) (List.sublist_append_right [_, _, _] _))) ?_
    rintro _ w ⟨A4, c4, Lo4, rfl, hO4, Hc⟩
    refine ⟨_, rfl, ?_⟩
    replace H := SH.call (L1 := [_, _, _]) (Lv := [_] ++ Lo3) H Hc
    clear Hc hO3
    have hl3 : (l1 ++ [(⟨1 + cs.length + q, cs.length + bs.length + 1, -ny.move, 0⟩ : Flo.Arc)]).length = l1.length + 1 := by simp
    rw [← hl3, ← hl2] at hO4 H
    refine OPS.nil ?_
    refine WP.region ?_
    refine OPS.val rfl rfl rfl (Ev.add rfl rfl (by unfold fits; omega)) ?_
    refine OPS.val rfl rfl rfl (Ev.mvI rfl) ?_
    refine OPS.nil ?_
    exact ⟨(by repeat (first | exact Agree.refl _ _ | exact Agree.mix _ _ _ | refine Agree.upd rfl ?_ | refine Agree.mix2 rfl ?_)), k2 - 1, by omega, q + 1, A4, c4, Lo4, by omega, rfl, hO4, H.drop (List.sublist_cons_self _ _)⟩
  have hq : q = bs.length := by simp at hc16; omega
  have hnet : l1 = netOf cs bs rs := by
    rw [hl1, hl0, hq, List.take_of_length_le (show D.length ≤ bs.length by omega), hC, hD, htm]; rfl
  rw [hnet] at hO3 H
  unfold netL at H
  simp only [List.cons_append, List.nil_append] at H
  refine WP.exit ?_
  refine XB.hit ?_
  refine WP.seq ?_
  refine WP.region ?_
  refine OPS.val rfl rfl rfl ((by exact Ev.loadO 2 H rfl (agg_run rfl) (size_run rfl) (by rfl) rfl)) ?_
  refine OPS.store 0 _ rfl rfl rfl (size_run rfl) rfl (cA rfl) rfl rfl H rfl (by simp) ?_
  clear H; intro w H; try simp only [List.set_cons_zero, List.set_cons_succ, putL, Nat.zero_add] at H
  refine OPS.nil ?_
  refine WP.ret ⟨[_], ⟨(by exact resCellA 0 H rfl (agg_run rfl) (size_run rfl) (by rfl) rfl), trivial⟩, ?_⟩
  have H2 : SH w0 [] w ([_, _, _] ++ Lo3) := H
  exact ⟨A3, c3, Lo3, (by rw [hNe]; rfl), fun w0 S w H => (hO3.rows (enc := Flo.arcCells) (l := netOf cs bs rs) (fun _ => rfl) (by decide) (R := []) H).1, H2.drop (List.sublist_append_right _ _)⟩
end Go.Proofs.Ytgjfjbphngamgaa
