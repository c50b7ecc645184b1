/-
  The law TopParking: the walk.
-/
import Derived.Test.YtjgdklhbegplfaaGreatP18
import Derived.Test.YtjgdklhbegplfaaGreatRows
import Derived.Test.YtjgdklhbegplfaaGreatArg
set_option linter.all false
namespace Go.Proofs.YtjgdklhbegplfaaGreat
open Go Go.W Go.RowKit

def jz (fs : List Fen) (ps : List Pho) (p : Park) (x : Int) : Int := if judgeErr fs ps.length p = 0 then x else 0
theorem parkJudgeL (A B : Option Addr) (fs : List Fen) (ps : List Pho) (ca cb : Nat) (p : Park) (w0 : World) (hz : FensAt w0 A fs) (hp : PhosAt w0 B ps) :
    Calls Tryz.prog 6 #[.slice A fs.length ca, .slice B ps.length cb, .agg (parkCells p).toArray] w0 fun e w' => e = .returned (.tuple #[.agg #[I (jz fs ps p p.ride), I (jz fs ps p p.rider), I (jz fs ps p p.t), I (jz fs ps p (judgeK fs ps p))], I (judgeErr fs ps.length p)]) ∧ Below w0.heap.size w0 w' := by
  have h := parkJudgeU A B fs ps ca cb p w0 hz hp
  have he : judgeC fs ps p = [I (jz fs ps p p.ride), I (jz fs ps p p.rider), I (jz fs ps p p.t), I (jz fs ps p (judgeK fs ps p))] := by
    unfold judgeC jz verC
    split <;> rfl
  rw [he] at h
  exact h
set_option maxHeartbeats 2000000 in
theorem lawParking (A B : Option Addr) (fs : List Fen) (ps : List Pho) (ca cb : Nat) (p : Park) (q : Pt) (w0 : World) (hz : FensAt w0 A fs) (hp : PhosAt w0 B ps) :
    Calls Tryz.prog 3 #[.slice A fs.length ca, .slice B ps.length cb, .agg (parkCells p).toArray, .agg #[I q.x, I q.y]] w0 fun e w' => e = .returned (.bool true) ∧ Below w0.heap.size w0 w' := by
  have H := SH.refl w0
  refine Calls.ofWP Tryz.func3 rfl Tryz.results3 Tryz.ntmps3 rfl ?_
  refine WP.seq ?_
  refine WP.region ?_
  refine OPS.box rfl rfl rfl rfl (cA rfl) H ?_
  clear H; intro g6 w H
  refine OPS.box rfl rfl rfl rfl (cA rfl) H ?_
  clear H; intro g7 w H
  refine OPS.val rfl rfl rfl (Ev.asB rfl) ?_
  refine OPS.nil ?_
  unfold parkCells at H
  refine WP.seq ?_
  refine WP.seq ?_
  refine WP.region ?_
  refine OPS.val rfl rfl rfl (Ev.mvS rfl) ?_
  refine OPS.val rfl rfl rfl (Ev.mvS rfl) ?_
  refine OPS.call (d := some 23) rfl rfl rfl (EvC.func (fun_run rfl)) (lawLight A B fs ps ca cb w (hz.sh H) (hp.sh H)) ?_
  rintro _ w ⟨bl, rfl, hb⟩
  refine ⟨_, rfl, ?_⟩
  replace H := H.toBelow hb; clear hb
  refine OPS.val rfl rfl rfl (Ev.not rfl) ?_
  refine OPS.nil ?_
  refine WP.cond rfl (fun hc1 => ?_) (fun hc1 => ?_)
  · refine WP.seq ?_
    refine WP.region ?_
    refine OPS.call (d := some 25) rfl rfl rfl (EvC.func (fun_run rfl)) (lawAwakeP w) ?_
    rintro _ w ⟨rfl, hb⟩
    refine ⟨_, rfl, ?_⟩
    replace H := H.toBelow hb; clear hb
    refine OPS.val rfl rfl rfl (Ev.asB rfl) ?_
    refine OPS.nil ?_
    refine WP.ret ⟨_, rfl, ?_⟩
    exact ⟨rfl, H.below⟩
  refine WP.skip ?_
  refine WP.seq ?_
  refine WP.region ?_
  refine OPS.val rfl rfl rfl (Ev.mvS rfl) ?_
  refine OPS.val rfl rfl rfl (Ev.mvS rfl) ?_
  refine OPS.val rfl rfl rfl ((by exact Ev.loadO 1 H rfl (agg_run rfl) (size_run rfl) (by rfl) rfl)) ?_
  refine OPS.call (d := some 30) rfl rfl rfl (EvC.func (fun_run rfl)) (parkJudgeL A B fs ps ca cb p w (hz.sh H) (hp.sh H)) ?_
  rintro _ w ⟨rfl, hb⟩
  refine ⟨_, rfl, ?_⟩
  replace H := H.toBelow hb; clear hb
  refine OPS.val rfl rfl rfl (Ev.mvT rfl) ?_
  refine OPS.val rfl rfl rfl (Ev.extract rfl rfl) ?_
  refine OPS.val rfl rfl rfl (Ev.extract rfl rfl) ?_
  refine OPS.alloc rfl rfl rfl rfl (zero_run rfl) rfl H ?_
  clear H; intro g9 w H
  refine OPS.store 0 _ rfl rfl rfl (size_run rfl) rfl (cA rfl) rfl rfl H rfl (by simp) ?_
  clear H; intro w H; try simp only [List.set_cons_zero, List.set_cons_succ, putL, Nat.zero_add] at H
  refine OPS.val rfl rfl rfl (Ev.asI rfl) ?_
  refine OPS.nil ?_
  refine WP.seq ?_
  refine WP.seq ?_
  refine WP.region ?_
  refine OPS.val rfl rfl rfl (Ev.mvI rfl) ?_
  refine OPS.val rfl rfl rfl (Ev.neq rfl rfl) ?_
  refine OPS.val rfl rfl rfl (Ev.mvB rfl) ?_
  refine OPS.gval rfl rfl rfl rfl rfl (fun hg => Ev.fieldAddr (fld_run rfl) (by rfl)) ?_
  refine OPS.gval rfl rfl rfl rfl rfl (fun hg => Ev.load1 (agg_run rfl) (by exact gvE hg rfl) (by exact H.ldL 1 rfl _ rfl)) ?_
  refine OPS.gval rfl rfl rfl rfl rfl (fun hg => Ev.lss (by exact gvE hg rfl) (by rfl)) ?_
  refine OPS.val rfl rfl rfl ((by exact Ev.pickOr rfl rfl rfl)) ?_
  refine OPS.val rfl rfl rfl (Ev.mvB rfl) ?_
  refine OPS.gval rfl rfl rfl rfl rfl (fun hg => Ev.fieldAddr (fld_run rfl) (by rfl)) ?_
  refine OPS.gval rfl rfl rfl rfl rfl (fun hg => Ev.load1 (agg_run rfl) (by exact gvE hg rfl) (by exact H.ldL 1 rfl _ rfl)) ?_
  refine OPS.gval rfl rfl rfl rfl rfl (fun hg => Ev.gtr (by exact gvE hg rfl) (by rfl)) ?_
  refine OPS.val rfl rfl rfl ((by exact Ev.pickOr rfl rfl rfl)) ?_
  refine OPS.val rfl rfl rfl (Ev.mvB rfl) ?_
  refine OPS.gval rfl rfl rfl rfl rfl (fun hg => Ev.fieldAddr (fld_run rfl) (by rfl)) ?_
  refine OPS.gval rfl rfl rfl rfl rfl (fun hg => Ev.load1 (agg_run rfl) (by exact gvE hg rfl) (by exact H.ldL 1 rfl _ rfl)) ?_
  refine OPS.gval rfl rfl rfl rfl rfl (fun hg => Ev.lss (by exact gvE hg rfl) (by rfl)) ?_
  refine OPS.val rfl rfl rfl ((by exact Ev.pickOr rfl rfl rfl)) ?_
  refine OPS.val rfl rfl rfl (Ev.mvB rfl) ?_
  refine OPS.gval rfl rfl rfl rfl rfl (fun hg => Ev.fieldAddr (fld_run rfl) (by rfl)) ?_
  refine OPS.gval rfl rfl rfl rfl rfl (fun hg => Ev.load1 (agg_run rfl) (by exact gvE hg rfl) (by exact H.ldL 1 rfl _ rfl)) ?_
  refine OPS.gval rfl rfl rfl rfl rfl (fun hg => Ev.gtr (by exact gvE hg rfl) (by rfl)) ?_
  refine OPS.val rfl rfl rfl ((by exact Ev.pickOr rfl rfl rfl)) ?_
  refine OPS.nil ?_
  refine WP.cond rfl (fun hc4 => ?_) (fun hc4 => ?_)
  · refine WP.seq ?_
    refine WP.region ?_
    refine OPS.call (d := some 55) rfl rfl rfl (EvC.func (fun_run rfl)) (lawAwakeP w) ?_
    rintro _ w ⟨rfl, hb⟩
    refine ⟨_, rfl, ?_⟩
    replace H := H.toBelow hb; clear hb
    refine OPS.val rfl rfl rfl (Ev.asB rfl) ?_
    refine OPS.nil ?_
    refine WP.ret ⟨_, rfl, ?_⟩
    exact ⟨rfl, H.below⟩
  have he : judgeErr fs ps.length p = 0 := by simp at hc4; exact hc4.1.1.1.1
  have hqr : PtR q := by simp at hc4; exact ⟨by omega, by omega, by omega, by omega⟩
  obtain ⟨hpe, hce⟩ := judge_ok he
  obtain ⟨hid, hrd, ht, hpr, hr⟩ := park_ok hpe
  simp only [jz, if_pos he] at H
  obtain ⟨v1, v2, v3, v4⟩ := hqr
  obtain ⟨u1, u2, u3, u4⟩ := hpr
  have m1 := mul15 (a := q.x - p.p.x) (b := q.x - p.p.x) (by omega) (by omega)
  have m2 := mul15 (a := q.y - p.p.y) (b := q.y - p.p.y) (by omega) (by omega)
  have m3 := mulAbs (a := p.r) (b := p.r) (A := 16384) (B := 16384) (by omega) (by omega)
  refine WP.skip ?_
  refine WP.seq ?_
  refine WP.rstill mixed (by kernel_rfl) H ?_
  clear H; intro w hbw6 H
  refine OPS.val rfl rfl rfl (Ev.fieldAddr (fld_run rfl) rfl) ?_
  refine OPS.val rfl rfl rfl (Ev.load1 (agg_run rfl) rfl (by exact H.ldL 1 rfl _ rfl)) ?_
  refine OPS.val rfl rfl rfl (Ev.fieldAddr (fld_run rfl) rfl) ?_
  refine OPS.val rfl rfl rfl (Ev.fieldAddr (fld_run rfl) rfl) ?_
  refine OPS.val rfl rfl rfl (Ev.load1 (agg_run rfl) rfl (by exact H.ldL 2 rfl _ rfl)) ?_
  refine OPS.val rfl rfl rfl (Ev.sub rfl rfl (by unfold fits; omega)) ?_
  refine OPS.val rfl rfl rfl (Ev.fieldAddr (fld_run rfl) rfl) ?_
  refine OPS.val rfl rfl rfl (Ev.load1 (agg_run rfl) rfl (by exact H.ldL 1 rfl _ rfl)) ?_
  refine OPS.val rfl rfl rfl (Ev.fieldAddr (fld_run rfl) rfl) ?_
  refine OPS.val rfl rfl rfl (Ev.fieldAddr (fld_run rfl) rfl) ?_
  refine OPS.val rfl rfl rfl (Ev.load1 (agg_run rfl) rfl (by exact H.ldL 2 rfl _ rfl)) ?_
  refine OPS.val rfl rfl rfl (Ev.sub rfl rfl (by unfold fits; omega)) ?_
  refine OPS.val rfl rfl rfl (Ev.asI rfl) ?_
  refine OPS.val rfl rfl rfl (Ev.asI rfl) ?_
  refine OPS.nil_s ?_
  refine WP.seq ?_
  refine WP.seq ?_
  refine WP.region ?_
  refine OPS.val rfl rfl rfl (Ev.mvI rfl) ?_
  refine OPS.val rfl rfl rfl (Ev.fieldAddr (fld_run rfl) rfl) ?_
  refine OPS.val rfl rfl rfl (Ev.load1 (agg_run rfl) rfl (by exact H.ldL 2 rfl _ rfl)) ?_
  refine OPS.val rfl rfl rfl (Ev.gtr rfl rfl) ?_
  refine OPS.val rfl rfl rfl (Ev.mvB rfl) ?_
  refine OPS.gval rfl rfl rfl rfl rfl (fun hg => Ev.mvI (by rfl)) ?_
  refine OPS.gval rfl rfl rfl rfl rfl (fun hg => Ev.neg (by exact gvE hg rfl) (by unfold fits; omega)) ?_
  refine OPS.gval rfl rfl rfl rfl rfl (fun hg => Ev.fieldAddr (fld_run rfl) (by rfl)) ?_
  refine OPS.gval rfl rfl rfl rfl rfl (fun hg => Ev.load1 (agg_run rfl) (by exact gvE hg rfl) (by exact H.ldL 2 rfl _ rfl)) ?_
  refine OPS.gval rfl rfl rfl rfl rfl (fun hg => Ev.gtr (by exact gvE hg rfl) (by exact gvE hg rfl)) ?_
  refine OPS.val rfl rfl rfl ((by exact Ev.pickOr rfl rfl rfl)) ?_
  refine OPS.val rfl rfl rfl (Ev.mvB rfl) ?_
  refine OPS.gval rfl rfl rfl rfl rfl (fun hg => Ev.mvI (by rfl)) ?_
  refine OPS.gval rfl rfl rfl rfl rfl (fun hg => Ev.fieldAddr (fld_run rfl) (by rfl)) ?_
  refine OPS.gval rfl rfl rfl rfl rfl (fun hg => Ev.load1 (agg_run rfl) (by exact gvE hg rfl) (by exact H.ldL 2 rfl _ rfl)) ?_
  refine OPS.gval rfl rfl rfl rfl rfl (fun hg => Ev.gtr (by exact gvE hg rfl) (by exact gvE hg rfl)) ?_
  refine OPS.val rfl rfl rfl ((by exact Ev.pickOr rfl rfl rfl)) ?_
  refine OPS.val rfl rfl rfl (Ev.mvB rfl) ?_
  refine OPS.gval rfl rfl rfl rfl rfl (fun hg => Ev.mvI (by rfl)) ?_
  refine OPS.gval rfl rfl rfl rfl rfl (fun hg => Ev.neg (by exact gvE hg rfl) (by unfold fits; omega)) ?_
  refine OPS.gval rfl rfl rfl rfl rfl (fun hg => Ev.fieldAddr (fld_run rfl) (by rfl)) ?_
  refine OPS.gval rfl rfl rfl rfl rfl (fun hg => Ev.load1 (agg_run rfl) (by exact gvE hg rfl) (by exact H.ldL 2 rfl _ rfl)) ?_
  refine OPS.gval rfl rfl rfl rfl rfl (fun hg => Ev.gtr (by exact gvE hg rfl) (by exact gvE hg rfl)) ?_
  refine OPS.val rfl rfl rfl ((by exact Ev.pickOr rfl rfl rfl)) ?_
  refine OPS.val rfl rfl rfl (Ev.mvB rfl) ?_
  refine OPS.gval rfl rfl rfl rfl rfl (fun hg => Ev.mvI (by rfl)) ?_
  refine OPS.gval rfl rfl rfl rfl rfl (fun hg => Ev.mvI (by rfl)) ?_
  refine OPS.gval rfl rfl rfl rfl rfl (fun hg => Ev.mul (by exact gvE hg rfl) (by exact gvE hg rfl) (by unfold fits; omega)) ?_
  refine OPS.gval rfl rfl rfl rfl rfl (fun hg => Ev.mvI (by rfl)) ?_
  refine OPS.gval rfl rfl rfl rfl rfl (fun hg => Ev.mvI (by rfl)) ?_
  refine OPS.gval rfl rfl rfl rfl rfl (fun hg => Ev.mul (by exact gvE hg rfl) (by exact gvE hg rfl) (by unfold fits; omega)) ?_
  refine OPS.gval rfl rfl rfl rfl rfl (fun hg => Ev.add (by exact gvE hg rfl) (by exact gvE hg rfl) (by unfold fits; omega)) ?_
  refine OPS.gval rfl rfl rfl rfl rfl (fun hg => Ev.fieldAddr (fld_run rfl) (by rfl)) ?_
  refine OPS.gval rfl rfl rfl rfl rfl (fun hg => Ev.load1 (agg_run rfl) (by exact gvE hg rfl) (by exact H.ldL 2 rfl _ rfl)) ?_
  refine OPS.gval rfl rfl rfl rfl rfl (fun hg => Ev.fieldAddr (fld_run rfl) (by rfl)) ?_
  refine OPS.gval rfl rfl rfl rfl rfl (fun hg => Ev.load1 (agg_run rfl) (by exact gvE hg rfl) (by exact H.ldL 2 rfl _ rfl)) ?_
  refine OPS.gval rfl rfl rfl rfl rfl (fun hg => Ev.mul (by exact gvE hg rfl) (by exact gvE hg rfl) (by unfold fits; omega)) ?_
  refine OPS.gval rfl rfl rfl rfl rfl (fun hg => Ev.gtr (by exact gvE hg rfl) (by exact gvE hg rfl)) ?_
  refine OPS.val rfl rfl rfl ((by exact Ev.pickOr rfl rfl rfl)) ?_
  refine OPS.nil ?_
  refine WP.cond rfl (fun hc7 => ?_) (fun hc7 => ?_)
  · refine WP.seq ?_
    refine WP.region ?_
    refine OPS.call (d := some 107) rfl rfl rfl (EvC.func (fun_run rfl)) (lawAwakeP w) ?_
    rintro _ w ⟨rfl, hb⟩
    refine ⟨_, rfl, ?_⟩
    replace H := H.toBelow hb; clear hb
    refine OPS.val rfl rfl rfl (Ev.asB rfl) ?_
    refine OPS.nil ?_
    refine WP.ret ⟨_, rfl, ?_⟩
    exact ⟨rfl, H.below⟩
  have hd : dotp p.p q q ≤ p.r * p.r := by simp at hc7; exact hc7.2
  refine WP.skip ?_
  refine WP.seq ?_
  refine WP.region ?_
  refine OPS.val rfl rfl rfl (Ev.asB rfl) ?_
  refine OPS.val rfl rfl rfl (Ev.asB rfl) ?_
  refine OPS.nil ?_
  refine WP.seq ?_
  refine WP.seq ?_
  refine WP.region ?_
  refine OPS.val rfl rfl rfl (Ev.asI rfl) ?_
  refine OPS.nil ?_
  refine WP.block ?_
  refine WP.loop [8, 13, 14, 15, 16, 17, 108, 109, 110, 111, 112, 113, 114, 115, 116, 117, 118, 119, 120, 121, 122, 123, 124, 125, 126, 127, 128, 129, 130, 131, 132, 133, 134, 135, 136, 137, 138, 139, 140, 141, 142, 143, 144, 145, 146, 147, 148, 149] (fun k e w' => ∃ (j : Nat) (sB gB : Bool), j + k = fs.length ∧ e 15 = I j ∧ e 13 = .bool sB ∧ e 14 = .bool gB ∧ sB = (fs.take j).any (fun f => lawInB f 2 p.t) ∧ gB = (fs.take j).any (fun f => lawInB f 2 p.t && decide (0 ≤ inVal f.P.l q)) ∧ (∀ f ∈ fs.take j, lawInB f 1 p.t = true → inVal f.P.l q < 0) ∧ SH w0 [] w' [⟨g9, 31, [I p.ride, I p.rider, I p.t, I (judgeK fs ps p)]⟩, ⟨g7, 25, [I q.x, I q.y]⟩, ⟨g6, 27, [I p.ride, I p.rider, I p.t, I p.p.x, I p.p.y, I p.r]⟩]) (fs.length) (⟨0, false, false, by omega, rfl, rfl, rfl, rfl, rfl, (fun f hf => by simp at hf), H⟩) ?_
  clear H
  rintro k u w ⟨j, sB, gB, hk, h15, h13, h14, hsB, hgB, hno, H⟩
  refine WP.know (t := 15) h15 (WP.know (t := 13) h13 (WP.know (t := 14) h14 ?_))
  refine WP.seq ?_
  refine WP.seq ?_
  refine WP.region ?_
  refine OPS.val rfl rfl rfl (Ev.mvI rfl) ?_
  refine OPS.val rfl rfl rfl (Ev.mvS rfl) ?_
  refine OPS.val rfl rfl rfl (Ev.len (el_run rfl) rfl) ?_
  refine OPS.val rfl rfl rfl (Ev.lss rfl rfl) ?_
  refine OPS.nil ?_
  refine WP.cond rfl (fun hc11 => ?_) (fun hc11 => ?_)
  · have hlt : j < fs.length := by simpa using hc11
    have hll := hz.len
    unfold maxLen at hll
    obtain ⟨bf, of, rfl, hcx⟩ := hz.rows j hlt
    have hfa := hz.each fs[j] (List.getElem_mem hlt)
    have hts : fs.take (j + 1) = fs.take j ++ [fs[j]] := List.take_succ_eq_append_getElem hlt
    have hfe := fErr_ok ((chk_ok hce).2 fs[j] (List.getElem_mem hlt))
    obtain ⟨x, hx⟩ : ∃ x, x = fs[j] := ⟨_, rfl⟩
    rw [← hx] at hcx hfa hts hfe
    have hc1 := hcx.2.1
    have hie : inErr x.P.l q = 0 := by rw [inErr, if_neg (by rw [hfe.2.1]; simp), if_neg (by rw [ptOk_iff.2 ⟨v1, v2, v3, v4⟩]; simp)]
    refine WP.skip ?_
    refine WP.seq ?_
    refine WP.block ?_
    refine WP.seq ?_
    refine WP.rquiet mixed (by kernel_rfl) H ?_
    clear H; intro w hbw13 H
    refine OPS.val rfl rfl rfl (Ev.mvS rfl) ?_
    refine OPS.val rfl rfl rfl (Ev.mvI rfl) ?_
    refine OPS.val rfl rfl rfl ((by exact Ev.indexAddr (el_run rfl) (size_run rfl) rfl rfl rfl (by omega))) ?_
    refine OPS.val rfl rfl rfl (Ev.fieldAddr (fld_run rfl) rfl) ?_
    refine OPS.val rfl rfl rfl (Ev.load1 (agg_run rfl) rfl (by exact H.ld0 (by assumption))) ?_
    refine OPS.val rfl rfl rfl ((by exact Ev.loadO 1 H rfl (agg_run rfl) (size_run rfl) (by rfl) rfl)) ?_
    refine OPS.callq rfl rfl rfl (EvC.func (fun_run rfl)) (fun w2 hb2 => geoInside x.P.A x.P.l x.P.cap q w2 ((hfa.pts.sh H).below hb2)) ?_
    refine OPS.val rfl rfl rfl (Ev.mvT rfl) ?_
    refine OPS.val rfl rfl rfl (Ev.extract rfl rfl) ?_
    refine OPS.val rfl rfl rfl (Ev.extract rfl rfl) ?_
    refine OPS.val rfl rfl rfl (Ev.asI rfl) ?_
    refine OPS.val rfl rfl rfl (Ev.asI rfl) ?_
    refine OPS.nilq H ?_
    clear H; intro w hbx13 H
    refine WP.seq ?_
    refine WP.seq ?_
    refine WP.region ?_
    refine OPS.val rfl rfl rfl (Ev.mvI rfl) ?_
    refine OPS.val rfl rfl rfl (Ev.neq rfl rfl) ?_
    refine OPS.nil ?_
    refine WP.cond rfl (fun hc14 => ?_) (fun hc14 => ?_)
    · refine WP.seq ?_
      refine WP.region ?_
      refine OPS.val rfl rfl rfl (Ev.asB rfl) ?_
      refine OPS.nil ?_
      refine WP.ret ⟨_, rfl, ?_⟩
      exfalso; rw [hie] at hc14; cases hc14
    refine WP.skip ?_
    refine WP.seq ?_
    refine WP.seq ?_
    refine WP.rquiet mixed (by kernel_rfl) H ?_
    clear H; intro w hbw16 H
    refine OPS.val rfl rfl rfl (Ev.mvS rfl) ?_
    refine OPS.val rfl rfl rfl (Ev.mvI rfl) ?_
    refine OPS.val rfl rfl rfl ((by exact Ev.indexAddr (el_run rfl) (size_run rfl) rfl rfl rfl (by omega))) ?_
    refine OPS.val rfl rfl rfl ((by (change Ev _ _ _ _ (Op.load 42 (Operand.tmp 128)) _; exact Ev.loadN (fenCells x) (agg_run rfl) (size_run rfl) rfl (cellsAt_sh H hcx)))) ?_
    refine OPS.val rfl rfl rfl (Ev.fieldAddr (fld_run rfl) rfl) ?_
    refine OPS.val rfl rfl rfl (Ev.load1 (agg_run rfl) rfl (by exact H.ldL 2 rfl _ rfl)) ?_
    refine OPS.callq rfl rfl rfl (EvC.func (fun_run rfl)) (fun w2 hb2 => lawIn x 1 p.t ht.1 w2) ?_
    refine OPS.val rfl rfl rfl (Ev.mvB rfl) ?_
    refine OPS.gval rfl rfl rfl rfl rfl (fun hg => Ev.mvI (by rfl)) ?_
    refine OPS.gval rfl rfl rfl rfl rfl (fun hg => Ev.geq (by exact gvE hg rfl) (by rfl)) ?_
    refine OPS.val rfl rfl rfl ((by exact Ev.pickAnd rfl rfl rfl)) ?_
    refine OPS.nilq H ?_
    clear H; intro w hbx16 H
    refine WP.cond rfl (fun hc16 => ?_) (fun hc16 => ?_)
    · refine WP.seq ?_
      refine WP.region ?_
      refine OPS.call (d := some 137) rfl rfl rfl (EvC.func (fun_run rfl)) (lawAwakeP w) ?_
      rintro _ w ⟨rfl, hb⟩
      refine ⟨_, rfl, ?_⟩
      replace H := H.toBelow hb; clear hb
      refine OPS.val rfl rfl rfl (Ev.asB rfl) ?_
      refine OPS.nil ?_
      refine WP.ret ⟨_, rfl, ?_⟩
      exact ⟨rfl, H.below⟩
    have hno1 : lawInB x 1 p.t = true → inVal x.P.l q < 0 := fun h => by
      rw [h] at hc16; simp at hc16; omega
    refine WP.skip ?_
    refine WP.seq ?_
    refine WP.rquiet mixed (by kernel_rfl) H ?_
    clear H; intro w hbw18 H
    refine OPS.val rfl rfl rfl (Ev.mvS rfl) ?_
    refine OPS.val rfl rfl rfl (Ev.mvI rfl) ?_
    refine OPS.val rfl rfl rfl ((by exact Ev.indexAddr (el_run rfl) (size_run rfl) rfl rfl rfl (by omega))) ?_
    refine OPS.val rfl rfl rfl ((by (change Ev _ _ _ _ (Op.load 42 (Operand.tmp 140)) _; exact Ev.loadN (fenCells x) (agg_run rfl) (size_run rfl) rfl (cellsAt_sh H hcx)))) ?_
    refine OPS.val rfl rfl rfl (Ev.fieldAddr (fld_run rfl) rfl) ?_
    refine OPS.val rfl rfl rfl (Ev.load1 (agg_run rfl) rfl (by exact H.ldL 2 rfl _ rfl)) ?_
    refine OPS.callq rfl rfl rfl (EvC.func (fun_run rfl)) (fun w2 hb2 => lawIn x 2 p.t ht.1 w2) ?_
    refine OPS.nilq H ?_
    clear H; intro w hbx18 H
    refine WP.cond rfl (fun hc18 => ?_) (fun hc18 => ?_)
    · refine WP.seq ?_
      refine WP.region ?_
      refine OPS.val rfl rfl rfl (Ev.asB rfl) ?_
      refine OPS.nil ?_
      refine WP.region ?_
      refine OPS.val rfl rfl rfl (Ev.mvB rfl) ?_
      refine OPS.val rfl rfl rfl (Ev.mvB rfl) ?_
      refine OPS.gval rfl rfl rfl rfl rfl (fun hg => Ev.mvI (by rfl)) ?_
      refine OPS.gval rfl rfl rfl rfl rfl (fun hg => Ev.geq (by exact gvE hg rfl) (by rfl)) ?_
      refine OPS.val rfl rfl rfl ((by exact Ev.pickOr rfl rfl rfl)) ?_
      refine OPS.val rfl rfl rfl (Ev.asB rfl) ?_
      refine OPS.nil ?_
      refine WP.region ?_
      refine OPS.val rfl rfl rfl (Ev.mvI rfl) ?_
      refine OPS.val rfl rfl rfl (Ev.add rfl rfl (by unfold fits; omega)) ?_
      refine OPS.val rfl rfl rfl (Ev.asI rfl) ?_
      refine OPS.nil ?_
      refine ⟨(by repeat (first | exact Agree.refl _ _ | exact Agree.mix _ _ _ | refine Agree.upd rfl ?_ | refine Agree.mix2 rfl ?_)), k - 1, by omega, j + 1, _, _, by omega, rfl, rfl, rfl, ?_, ?_, (fun f hf => by
        rw [hts] at hf
        rcases List.mem_append.1 hf with hf | hf
        · exact hno f hf
        · rw [List.mem_singleton.1 hf]; exact hno1), H⟩
      · rw [hts, List.any_append, ← hsB]; simp [hc18]
      · rw [hts, List.any_append, ← hgB]; simp [hc18]
    refine WP.skip ?_
    refine WP.region ?_
    refine OPS.val rfl rfl rfl (Ev.mvI rfl) ?_
    refine OPS.val rfl rfl rfl (Ev.add rfl rfl (by unfold fits; omega)) ?_
    refine OPS.val rfl rfl rfl (Ev.asI rfl) ?_
    refine OPS.nil ?_
    refine ⟨(by repeat (first | exact Agree.refl _ _ | exact Agree.mix _ _ _ | refine Agree.upd rfl ?_ | refine Agree.mix2 rfl ?_)), k - 1, by omega, j + 1, _, _, by omega, rfl, rfl, rfl, ?_, ?_, (fun f hf => by
      rw [hts] at hf
      rcases List.mem_append.1 hf with hf | hf
      · exact hno f hf
      · rw [List.mem_singleton.1 hf]; exact hno1), H⟩
    · rw [hts, List.any_append, ← hsB]; simp [hc18]
    · rw [hts, List.any_append, ← hgB]; simp [hc18]
  have hj : j = fs.length := by simp at hc11; omega
  subst hj
  rw [List.take_length] at hsB hgB hno
  refine WP.exit ?_
  refine XB.hit ?_
  refine WP.seq ?_
  refine WP.seq ?_
  refine WP.region ?_
  refine OPS.val rfl rfl rfl (Ev.mvB rfl) ?_
  refine OPS.val rfl rfl rfl (Ev.mvB rfl) ?_
  refine OPS.gval rfl rfl rfl rfl rfl (fun hg => Ev.mvB (by rfl)) ?_
  refine OPS.gval rfl rfl rfl rfl rfl (fun hg => Ev.not (by exact gvE hg rfl)) ?_
  refine OPS.val rfl rfl rfl ((by exact Ev.pickAnd rfl rfl rfl)) ?_
  refine OPS.nil ?_
  refine WP.cond rfl (fun hc21 => ?_) (fun hc21 => ?_)
  · refine WP.seq ?_
    refine WP.region ?_
    refine OPS.call (d := some 155) rfl rfl rfl (EvC.func (fun_run rfl)) (lawAwakeP w) ?_
    rintro _ w ⟨rfl, hb⟩
    refine ⟨_, rfl, ?_⟩
    replace H := H.toBelow hb; clear hb
    refine OPS.val rfl rfl rfl (Ev.asB rfl) ?_
    refine OPS.nil ?_
    refine WP.ret ⟨_, rfl, ?_⟩
    exact ⟨rfl, H.below⟩
  have hjk := judge_fine (ps := ps) he (ptOk_iff.2 ⟨v1, v2, v3, v4⟩) hd hno (fun h => by
    rw [← hsB] at h
    rw [← hgB]
    rw [h] at hc21
    simpa using hc21)
  obtain ⟨kk, hkk⟩ : ∃ kk, kk = judgeK fs ps p := ⟨_, rfl⟩
  rw [← hkk] at H hjk
  refine WP.skip ?_
  refine WP.seq ?_
  refine WP.region ?_
  refine OPS.val rfl rfl rfl (Ev.fieldAddr (fld_run rfl) rfl) ?_
  refine OPS.val rfl rfl rfl (Ev.load1 (agg_run rfl) rfl (by exact H.ldL 2 rfl _ rfl)) ?_
  refine OPS.val rfl rfl rfl (Ev.fieldAddr (fld_run rfl) rfl) ?_
  refine OPS.val rfl rfl rfl (Ev.load1 (agg_run rfl) rfl (by exact H.ldL 2 rfl _ rfl)) ?_
  refine OPS.val rfl rfl rfl (Ev.build (bld_45_ (e := fun _ => .int .i64 0))) ?_
  refine OPS.val rfl rfl rfl (Ev.build (bld_45_0_1 rfl rfl)) ?_
  refine OPS.val rfl rfl rfl (Ev.build (bld_45_0_1 rfl rfl)) ?_
  refine OPS.val rfl rfl rfl (Ev.build (bld_47_2 rfl)) ?_
  refine OPS.buildSlice rfl rfl rfl rfl (bsl_48_1_0 rfl) H ?_
  clear H; intro g164 w H
  refine OPS.val rfl rfl rfl (Ev.build (bld_51_0_1_2_3_5_7_9 rfl rfl rfl rfl rfl rfl rfl)) ?_
  refine OPS.alloc rfl rfl rfl rfl (zero_run rfl) rfl H ?_
  clear H; intro g18 w H
  refine OPS.store 0 _ rfl rfl rfl (size_run rfl) rfl (cA rfl) rfl rfl H rfl (by simp) ?_
  clear H; intro w H; try simp only [List.set_cons_zero, List.set_cons_succ, putL, Nat.zero_add] at H
  refine OPS.nil ?_
  refine WP.seq ?_
  refine WP.region ?_
  refine OPS.val rfl rfl rfl (Ev.build (bld_57_0_1_2 rfl rfl rfl)) ?_
  refine OPS.val rfl rfl rfl (Ev.build (bld_59_1_2 rfl rfl)) ?_
  refine OPS.buildSlice rfl rfl rfl rfl (bsl_60_1_0 rfl) H ?_
  clear H; intro g169 w H
  refine OPS.buildSlice rfl rfl rfl rfl (bsl_55_1_0 rfl) H ?_
  clear H; intro g170 w H
  refine OPS.val rfl rfl rfl (Ev.build (bld_63_0_5 rfl rfl)) ?_
  refine OPS.val rfl rfl rfl ((by exact Ev.loadO 2 H rfl (agg_run rfl) (size_run rfl) (by rfl) rfl)) ?_
  refine OPS.buildSlice rfl rfl rfl rfl (bsl_64_1_0 rfl) H ?_
  clear H; intro g173 w H
  refine OPS.val rfl rfl rfl ((by exact Ev.loadO 5 H rfl (agg_run rfl) (size_run rfl) (by rfl) rfl)) ?_
  refine OPS.buildSlice rfl rfl rfl rfl (bsl_65_1_0 rfl) H ?_
  clear H; intro g175 w H
  refine OPS.call (d := some 176) rfl rfl rfl (EvC.func (fun_run rfl)) (fareAll g169 g170 g164 g175 g173 p.ride p.rider p.t kk ⟨hid.1, hid.2, hrd.1, hrd.2⟩ ⟨ht.1, ht.2, by omega, by omega, by omega⟩ w ⟨cellsAt_app (sp := []) H 3 rfl, H.ldL 2 rfl 0 rfl⟩ ⟨cellsAt_app (sp := []) H 5 rfl⟩ ⟨cellsAt_app (sp := []) H 0 rfl⟩ (cellsAt_app (sp := []) H 1 rfl)) ?_
  rintro _ w ⟨gx, cx, rfl, hx3, hbx⟩
  refine ⟨_, rfl, ?_⟩
  replace H := H.toBelow hbx
  clear hbx
  refine OPS.val rfl rfl rfl (Ev.mvT rfl) ?_
  refine OPS.val rfl rfl rfl (Ev.extract rfl rfl) ?_
  refine OPS.val rfl rfl rfl (Ev.extract rfl rfl) ?_
  refine OPS.val rfl rfl rfl (Ev.asS rfl) ?_
  refine OPS.val rfl rfl rfl (Ev.asI rfl) ?_
  refine OPS.nil ?_
  refine WP.seq ?_
  refine WP.region ?_
  refine OPS.val rfl rfl rfl (Ev.fieldAddr (fld_run rfl) rfl) ?_
  refine OPS.val rfl rfl rfl (Ev.load1 (agg_run rfl) rfl (by exact H.ldL 6 rfl _ rfl)) ?_
  refine OPS.val rfl rfl rfl (Ev.neq rfl rfl) ?_
  refine OPS.val rfl rfl rfl (Ev.mvB rfl) ?_
  refine OPS.gval rfl rfl rfl rfl rfl (fun hg => Ev.mvI (by rfl)) ?_
  refine OPS.gval rfl rfl rfl rfl rfl (fun hg => Ev.eql (by exact gvE hg rfl) (by rfl)) ?_
  refine OPS.val rfl rfl rfl ((by exact Ev.pickAnd rfl rfl rfl)) ?_
  refine OPS.val rfl rfl rfl (Ev.mvB rfl) ?_
  refine OPS.gval rfl rfl rfl rfl rfl (fun hg => Ev.mvS (by rfl)) ?_
  refine OPS.gval rfl rfl rfl rfl rfl (fun hg => Ev.len (el_run rfl) (by exact gvE hg rfl)) ?_
  refine OPS.gval rfl rfl rfl rfl rfl (fun hg => Ev.eql (by exact gvE hg rfl) (by rfl)) ?_
  refine OPS.val rfl rfl rfl ((by exact Ev.pickAnd rfl rfl rfl)) ?_
  refine OPS.val rfl rfl rfl (Ev.mvB rfl) ?_
  refine OPS.gval rfl rfl rfl rfl rfl (fun hg => Ev.mvS (by rfl)) ?_
  refine OPS.gval rfl rfl rfl rfl rfl (fun hg => Ev.indexAddr (j := 0) (el_run rfl) (size_run rfl) (by exact gvE hg rfl) (by rfl) rfl (by decide)) ?_
  refine OPS.gval rfl rfl rfl rfl rfl (fun hg => Ev.fieldAddr (fld_run rfl) (by exact gvE hg rfl)) ?_
  refine OPS.gval rfl rfl rfl rfl rfl (fun hg => Ev.load1 (agg_run rfl) (by exact gvE hg rfl) hx3) ?_
  refine OPS.gval rfl rfl rfl rfl rfl (fun hg => Ev.eql (by exact gvE hg rfl) (by rfl)) ?_
  refine OPS.val rfl rfl rfl ((by exact Ev.pickAnd rfl rfl rfl)) ?_
  refine OPS.val rfl rfl rfl (Ev.mvB rfl) ?_
  refine OPS.gcall0 (f := 5) (lawAwakeP w) (fun _ _ h => h) rfl rfl rfl rfl rfl (fun hg => (EvC.func (fun_run rfl))) ?_
  intro w hbc; replace H := H.toBelow hbc
  refine OPS.val rfl rfl rfl ((by exact Ev.pickAnd rfl rfl rfl)) ?_
  refine OPS.val rfl rfl rfl (Ev.asB rfl) ?_
  refine OPS.nil ?_
  refine WP.ret ⟨_, rfl, ?_⟩
  have hk2 : kk ≠ 2 := by omega
  exact ⟨ret_b rfl (by simp [hk2]), H.below⟩
end Go.Proofs.YtjgdklhbegplfaaGreat

/-
  What the arguments of this seat's law read as.
-/
set_option linter.all false
namespace Go.Proofs.YtjgdklhbegplfaaGreat
open Go Go.W Go.RowKit
open Go.ChangeShapes Go.WideShapes Go.ChangeAt

theorem own : ownKnob Tryz.prog.godebug = none := by kernel_rfl
theorem laidOut : laidOutB Tryz.prog = true := by kernel_rfl
section
variable {H : Type} {enc : TypeId × Value → H} {w : World} {base : Nat} {spare : Nat → Bool} {held : Bool}
theorem rdInt : Rd enc Tryz.prog w base spare held 3 (fun n : Int => [I n]) (fun n => (Lit.int .i64 n).wf = true) := Rd.int Tryz.underlying3
theorem rdByte : Rd enc Tryz.prog w base spare held 5 (fun n : Int => [U8 n]) (fun _ => True) := (Rd.int (k := .u8) Tryz.underlying5).mono fun _ _ => trivial
theorem rdBytes : Rd enc Tryz.prog w base spare held 70 (slCells (α := Int)) (SlG w 1 (fun n => [U8 n]) (fun _ => True)) := Rd.slice Tryz.underlying70 (by kernel_rfl) (by decide) rdByte
theorem rdPt : Rd enc Tryz.prog w base spare held 25 ptCells (fun _ => True) :=
  (Rd.struct (tot := 2) Tryz.underlying25 (by kernel_rfl) (RdF.cons (sz := 1) rdInt rfl rfl (by kernel_rfl) (RdF.cons (sz := 1) rdInt rfl rfl (by kernel_rfl) RdF.nil))).conv (fun p => ⟨p.1, p.2.1⟩) (fun _ => rfl) (fun _ _ => trivial)
theorem rdWin : Rd enc Tryz.prog w base spare held 40 (fun p : Int × Int => [I p.1, I p.2]) (fun _ => True) :=
  (Rd.struct (tot := 2) Tryz.underlying40 (by kernel_rfl) (RdF.cons (sz := 1) rdInt rfl rfl (by kernel_rfl) (RdF.cons (sz := 1) rdInt rfl rfl (by kernel_rfl) RdF.nil))).conv (fun p => (p.1, p.2.1)) (fun _ => rfl) (fun _ _ => trivial)
theorem rdPts : Rd enc Tryz.prog w base spare held 38 (slCells (α := Pt)) (SlG w 2 ptCells (fun _ => True)) := Rd.slice Tryz.underlying38 (by kernel_rfl) (by decide) rdPt
theorem rdFen : Rd enc Tryz.prog w base spare held 42 fenCells (FenAt w) :=
  (Rd.struct (tot := 6) Tryz.underlying42 (by kernel_rfl) (RdF.cons (sz := 1) rdInt rfl rfl (by kernel_rfl) (RdF.cons (sz := 1) rdPts rfl rfl (by kernel_rfl) (RdF.cons (sz := 2) rdWin rfl rfl (by kernel_rfl) (RdF.cons (sz := 2) rdWin rfl rfl (by kernel_rfl) RdF.nil))))).conv
    (fun p => ⟨p.1, p.2.1, p.2.2.1.1, p.2.2.1.2, p.2.2.2.1.1, p.2.2.2.1.2⟩) (fun _ => rfl) (fun _ h => ⟨h.2.1.rows, h.2.1.len⟩)
theorem rdFens : Rd enc Tryz.prog w base spare held 22 (slCells (α := Fen)) (SlG w 6 fenCells (FenAt w)) := Rd.slice Tryz.underlying22 (by kernel_rfl) (by decide) rdFen
theorem fensAt {s : SlA Fen} (h : SlG w 6 fenCells (FenAt w) s) : FensAt w s.A s.l := ⟨h.rows, h.all, h.len⟩
theorem rdPho : Rd enc Tryz.prog w base spare held 72 phoCells (PhoAt w) :=
  (Rd.struct (tot := 5) Tryz.underlying72 (by kernel_rfl) (RdF.cons (sz := 1) rdInt rfl rfl (by kernel_rfl) (RdF.cons (sz := 1) rdInt rfl rfl (by kernel_rfl) (RdF.cons (sz := 1) rdInt rfl rfl (by kernel_rfl) (RdF.cons (sz := 1) rdInt rfl rfl (by kernel_rfl) (RdF.cons (sz := 1) rdBytes rfl rfl (by kernel_rfl) RdF.nil)))))).conv
    (fun p => ⟨p.1, p.2.1, p.2.2.1, p.2.2.2.1, p.2.2.2.2.1⟩) (fun _ => rfl) (fun _ h => ⟨h.2.2.2.2.1.rows.ones, h.2.2.2.2.1.len⟩)
theorem rdPhos : Rd enc Tryz.prog w base spare held 23 (slCells (α := Pho)) (SlG w 5 phoCells (PhoAt w)) := Rd.slice Tryz.underlying23 (by kernel_rfl) (by decide) rdPho
theorem phosAt {s : SlA Pho} (h : SlG w 5 phoCells (PhoAt w) s) : PhosAt w s.A s.l := ⟨h.rows, h.all, h.len⟩
theorem rdPark : Rd enc Tryz.prog w base spare held 27 parkCells (fun _ => True) :=
  (Rd.struct (tot := 6) Tryz.underlying27 (by kernel_rfl) (RdF.cons (sz := 1) rdInt rfl rfl (by kernel_rfl) (RdF.cons (sz := 1) rdInt rfl rfl (by kernel_rfl) (RdF.cons (sz := 1) rdInt rfl rfl (by kernel_rfl) (RdF.cons (sz := 2) rdPt rfl rfl (by kernel_rfl) (RdF.cons (sz := 1) rdInt rfl rfl (by kernel_rfl) RdF.nil)))))).conv
    (fun p => ⟨p.1, p.2.1, p.2.2.1, p.2.2.2.1, p.2.2.2.2.1⟩) (fun _ => rfl) (fun _ _ => trivial)
end
end Go.Proofs.YtjgdklhbegplfaaGreat
