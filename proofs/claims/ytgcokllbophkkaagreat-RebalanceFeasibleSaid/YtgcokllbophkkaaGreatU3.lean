/-
 Plain: what Make returns is feasible, cannot be extended, and is the best with one truck and few needs.
-/
import Derived.Test.YtgcokllbophkkaaGreatX1
set_option linter.all false
namespace Go.Proofs.YtgcokllbophkkaaGreat
open Go Go.W Go.RowKit
section
variable {m : Nat} {l : List Edg} {ts : List Truck} {ns : List Need} {hd : Int}
theorem RouteR.walk {q : Nat} {left x : List Int} (h : RouteR m l ts ns hd q left x) (hx : x ≠ []) : walkE m l ts ns hd q x = 0 := by
 rcases h with ⟨_, h⟩ | ⟨_, rfl⟩
 ·exact h.1.2
 ·rcases (greedy_ok (m := m) (l := l) (ts := ts) (ns := ns) (hd := hd) (q := q) (left := left) left.length GrOk.nil).walk with h | h
  ·exact absurd h hx
  ·exact h
theorem RouteR.full {q : Nat} {left x : List Int} (h : RouteR m l ts ns hd q left x) (hnd : left.Nodup) (hpos : ∀ i ∈ left, 0 < absI (needAt ns i).move) : ∀ i ∈ left, i ∉ x → walkE m l ts ns hd q (x ++ [i]) ≠ 0 := fun i hi hix => by
 rcases h with ⟨_, hb⟩ | ⟨_, rfl⟩
 ·intro hw
  have h1 := hb.2 (x ++ [i]) ⟨⟨by
   rw [List.nodup_append]
   exact ⟨hb.1.1.1, by simp, fun a ha b hb' he => by simp at hb'; subst hb' he; exact hix ha⟩, fun y hy => by
   rcases List.mem_append.1 hy with hy | hy
   ·exact hb.1.1.2 y hy
   ·simp at hy; subst hy; exact hi⟩, hw⟩
  refine h1 (.inl ?_)
  rw [mvL_snoc]
  have := hpos i hi
  omega
 ·rcases greedy_end (m := m) (l := l) (ts := ts) (ns := ns) (hd := hd) (q := q) hnd left.length GrOk.nil (by simp) i hi with h | h
  ·exact absurd h hix
  ·exact h
def allR (R : List (Int × List Int)) : List Int := R.flatMap (·.2)
def servedR (R : List (Int × List Int)) (t : Int) : List Int := match R.find? (fun r => r.1 == t) with
 | none => []
 | some r => r.2
theorem perm_filter (left x : List Int) (hl : left.Nodup) (hx : x.Nodup) (hs : ∀ i ∈ x, i ∈ left) : (x ++ left.filter fun i => !decide (i ∈ x)).Perm left := by
 refine (List.perm_ext_iff_of_nodup ?_ hl).2 fun i => ?_
 ·rw [List.nodup_append]
  exact ⟨hx, hl.filter _, fun a ha b hb he => by subst he; rw [List.mem_filter] at hb; simp [ha] at hb⟩
 ·rw [List.mem_append, List.mem_filter]
  constructor
  ·rintro (h | h)
   ·exact hs i h
   ·exact h.1
  ·intro h
   by_cases hi : i ∈ x
   ·exact .inl hi
   ·exact .inr ⟨h, by simpa using hi⟩
structure PlanR (m : Nat) (l : List Edg) (ts : List Truck) (ns : List Need) (hd : Int) (j : Nat) (R : List (Int × List Int)) (left : List Int) : Prop where
 perm : (allR R ++ left).Perm (upto ns.length)
 trk : (R.map (·.1)).Nodup
 low : ∀ r ∈ R, r.1 < (j : Int)
 walk : ∀ r ∈ R, walkE m l ts ns hd r.1 r.2 = 0
 full : ∀ t : Nat, t < j → ∀ i ∈ left, walkE m l ts ns hd t (servedR R t ++ [i]) ≠ 0
theorem MkR.plan {j : Nat} {R : List (Int × List Int)} {left : List Int} (h : MkR m l ts ns hd j R left) (hpos : ∀ i : Int, 0 ≤ i → i < ns.length → 0 < absI (needAt ns i).move) : PlanR m l ts ns hd j R left := by
 induction h with
 | start => exact ⟨by simp [allR], by simp, by simp, by simp, fun t ht => absurd ht (by omega)⟩
 | @skip j R left h hr ih =>
  obtain ⟨hnd, hin, _⟩ := h.facts
  refine ⟨ih.perm, ih.trk, fun r hr => by have := ih.low r hr; omega, ih.walk, fun t ht i hi => ?_⟩
  rcases Nat.lt_succ_iff_lt_or_eq.1 ht with h1 | rfl
  ·exact ih.full t h1 i hi
  ·have hs : servedR R t = [] := by
    unfold servedR
    rw [List.find?_eq_none.2 fun r hr => by have := ih.low r hr; simp; omega]
   rw [hs]
   exact hr.full hnd (fun i hi => hpos i (hin i hi).1 (hin i hi).2) i hi (by simp)
 | @add j R left x h hr hx ih =>
  obtain ⟨hnd, hin, _⟩ := h.facts
  obtain ⟨hxn, hxs⟩ := hr.sub
  refine ⟨?_, ?_, ?_, ?_, ?_⟩
  ·have h1 : allR (R ++ [((j : Int), x)]) = allR R ++ x := by simp [allR]
   rw [h1, List.append_assoc]
   exact ((perm_filter left x hnd hxn hxs).append_left (allR R)).trans ih.perm
  ·rw [List.map_append, List.nodup_append]
   refine ⟨ih.trk, by simp, fun a ha b hb he => ?_⟩
   simp at hb
   obtain ⟨r, hr', rfl⟩ := List.mem_map.1 ha
   have := ih.low r hr'
   omega
  ·intro r hr'
   rcases List.mem_append.1 hr' with hr' | hr'
   ·have := ih.low r hr'; omega
   ·simp at hr'; subst hr'; show (j : Int) < _; omega
  ·intro r hr'
   rcases List.mem_append.1 hr' with hr' | hr'
   ·exact ih.walk r hr'
   ·simp at hr'; subst hr'; exact hr.walk hx
  ·intro t ht i hi
   rw [List.mem_filter] at hi
   have hix : i ∉ x := by simpa using hi.2
   rcases Nat.lt_succ_iff_lt_or_eq.1 ht with h1 | rfl
   ·have hs : servedR (R ++ [((j : Int), x)]) t = servedR R t := by
     unfold servedR
     rw [List.find?_append]
     cases hf : R.find? (fun r => r.1 == (t : Int)) with
     | some r => rfl
     | none =>
      have : ¬ (j : Int) = t := by omega
      simp [this]
    rw [hs]
    exact ih.full t h1 i hi.1
   ·have hs : servedR (R ++ [((t : Int), x)]) t = x := by
     unfold servedR
     rw [List.find?_append, List.find?_eq_none.2 fun r hr => by have := ih.low r hr; simp; omega]
     simp
    rw [hs]
    exact hr.full hnd (fun i hi => hpos i (hin i hi).1 (hin i hi).2) i hi.1 hix
theorem pos_of (hK : NightOk m l ts ns hd) : ∀ i : Int, 0 ≤ i → i < ns.length → 0 < absI (needAt ns i).move := fun i h1 h2 => by
 obtain ⟨p, rfl⟩ := Int.eq_ofNat_of_zero_le h1
 have hp : p < ns.length := by omega
 have := (hK.nd ns[p] (List.getElem_mem hp)).2.1
 rw [needAt_eq hp]
 unfold absI; split <;> omega
theorem upto_sorted (k : Nat) : (upto k).Pairwise (· < ·) := by
 unfold upto
 rw [List.pairwise_map]
 exact List.Pairwise.imp (fun h => by omega) List.pairwise_lt_range
theorem sortedB_of {l : List Int} (h : l.Pairwise (· < ·)) : sortedB l = true := by
 unfold sortedB
 rw [List.all_eq_true]
 intro i hi
 rw [List.mem_range] at hi
 rw [List.pairwise_iff_getElem] at h
 have := h i (i + 1) (by omega) (by omega) (by omega)
 simp [show i < l.length by omega, show i + 1 < l.length by omega]
 omega
theorem allR_rtL (rs : List Rt) : allR (rtL rs) = allN rs := by simp [allR, rtL, allN, List.flatMap_map]
theorem make_plan (hE : nightErr m l ts ns hd = 0) {rs : List Rt} {left : List Int} {j : Nat} (h : MkR m l ts ns hd j (rtL rs) left) : planErr m l ts ns hd rs left = 0 := by
 obtain ⟨m', hm, hK⟩ := nightOk_of hE
 obtain rfl : m = m' := by omega
 have hP := h.plan (pos_of hK)
 have hperm := hP.perm
 rw [allR_rtL] at hperm
 have hr : routesE m l ts ns hd rs = 0 := routesE_all fun i hi => by
  have := hP.walk (rs[i].trk, rs[i].nd.l) (List.mem_map.2 ⟨rs[i], List.getElem_mem hi, rfl⟩)
  exact this
 have ht : (rs.map (·.trk)).Nodup := by
  have := hP.trk
  unfold rtL at this
  rw [List.map_map] at this
  exact this
 have hnd : (allN rs ++ left).Nodup := hperm.nodup_iff.2 (upto_nodup _)
 have hgd : goodAll ns.length (allN rs ++ left) = true := by
  unfold goodAll
  rw [decide_eq_true, decide_eq_true]
  ·rfl
  ·rw [hperm.length_eq, upto_len]
  ·exact fun i hi => upto_mem.1 (hperm.mem_iff.1 hi)
 rw [planErr, if_neg (by rw [hE]; simp), if_neg (by rw [hr]; simp), if_neg (by simp [twiceB, ht, hnd]), if_pos hgd, if_pos (sortedB_of ((upto_sorted _).sublist h.sub))]
theorem roadT_self {v : Nat} (hok : RoadOk m l) (hv : v < m) : roadT m l v v = 0 := by
 obtain ⟨K, D, hR⟩ := rd_exists hok hv
 rw [roadT_eq hok hR hv, if_pos hR.src.1]
 exact hR.src.2
theorem outD_nil (hE : nightErr m l ts ns hd = 0) {q : Nat} (hq : q < ts.length) : outD m l ts ns hd q [] = 0 := by
 obtain ⟨m', hm, hK⟩ := nightOk_of hE
 obtain rfl : m = m' := by omega
 have htr := hK.tr ts[q] (List.getElem_mem hq)
 unfold outD
 split
 ·unfold walkT endT
  have hgt : ts.getD (q : Int).toNat default = ts[q] := by simp [hq]
  rw [hgt]
  have hs : roadT m l (ts[q]).depot.toNat (ts[q]).depot.toNat = 0 := roadT_self hK.road (by omega)
  simp [goT, startT, homeT, driveS, roadD, hs]
 ·rfl
theorem make_best (hE : nightErr m l ts ns hd = 0) {rs rs2 : List Rt} {left left2 : List Int} (h : MkR m l ts ns hd ts.length (rtL rs) left) (h1 : ts.length = 1) (h6 : ns.length ≤ 6) :
  betB (planErr m l ts ns hd rs2 left2) (planErr m l ts ns hd rs left) (valL m l ts ns hd rs2 left2) (valL m l ts ns hd rs left) (valD m l ts ns hd rs2 left2) (valD m l ts ns hd rs left) = false := by
 have hp := make_plan hE h
 by_cases hp2' : planErr m l ts ns hd rs2 left2 ≠ 0
 ·unfold betB; simp [hp2']
 have hp2 : planErr m l ts ns hd rs2 left2 = 0 := Classical.not_not.1 hp2'
 clear hp2'
 obtain ⟨m', hm, hK⟩ := nightOk_of hE
 obtain rfl : m = m' := by omega
 have hPp := (h.plan (pos_of hK)).perm
 rw [allR_rtL] at hPp
 have hQ := planOk_of hp2
 rw [valL, valL, valD, valD, if_pos hp, if_pos hp2, if_pos hp, if_pos hp2]
 obtain ⟨x, hx, hxa, hxd⟩ : ∃ x, IsBest (mvL ns) (secsD m l ts ns hd ((0 : Nat) : Int)) (SubP m l ts ns hd ((0 : Nat) : Int) (upto ns.length)) (some x) ∧ allN rs = x ∧ drvL m l ts ns hd rs = outD m l ts ns hd ((0 : Nat) : Int) x := by
  rw [h1] at h
  generalize hrl : rtL rs = R at h
  cases h with
  | skip h0 hr =>
   cases h0
   rcases hr with ⟨_, hr⟩ | ⟨h7, _⟩
   ·have hrs : rs = [] := by unfold rtL at hrl; exact List.map_eq_nil_iff.1 hrl
    subst hrs
    exact ⟨[], hr, rfl, by rw [outD_nil hE (by omega)]; rfl⟩
   ·rw [upto_len] at h7; omega
  | @add _ _ _ x h0 hr hx =>
   cases h0
   rcases hr with ⟨_, hr⟩ | ⟨h7, _⟩
   ·obtain ⟨r, rfl, h3, h4⟩ : ∃ r, rs = [r] ∧ r.trk = ((0 : Nat) : Int) ∧ r.nd.l = x := by
     unfold rtL at hrl
     cases rs with
     | nil => cases hrl
     | cons r rs =>
      cases rs with
      | nil => simp at hrl; exact ⟨r, rfl, hrl.1, hrl.2⟩
      | cons r' rs => simp at hrl
    refine ⟨x, hr, by simp [allN, h4], ?_⟩
    unfold drvL
    simp [h3, h4]
   ·rw [upto_len] at h7; omega
 have hq1 : rs2 = [] ∨ ∃ r, rs2 = [r] ∧ r.trk = ((0 : Nat) : Int) := by
  have htr : ∀ i (hi : i < rs2.length), rs2[i].trk = 0 := fun i hi => by
   obtain ⟨m2, q, t, hm2, hq, hW⟩ := walkOk_of (hQ.walks i hi)
   have := hW.hq
   omega
  cases rs2 with
  | nil => exact .inl rfl
  | cons r rs2 =>
   cases rs2 with
   | nil => exact .inr ⟨r, rfl, htr 0 (by simp)⟩
   | cons r' rs2 =>
    have h3 := htr 0 (by simp)
    have h4 := htr 1 (by simp)
    have := hQ.trk
    simp at h3 h4
    simp [h3, h4] at this
 obtain ⟨y, hy, hya, hyd⟩ : ∃ y, SubP m l ts ns hd ((0 : Nat) : Int) (upto ns.length) y ∧ allN rs2 = y ∧ drvL m l ts ns hd rs2 = outD m l ts ns hd ((0 : Nat) : Int) y := by
  rcases hq1 with rfl | ⟨r, rfl, hr⟩
  ·refine ⟨[], ⟨⟨by simp, by simp⟩, ?_⟩, rfl, by rw [outD_nil hE (by omega)]; rfl⟩
   have h0 : askErr m l ts ns hd ((0 : Nat) : Int) [] = 0 := ask_zero hE (by omega) (by simp) (by simp) (by simp)
   obtain ⟨m', hm, hk⟩ := askOk_of h0
   obtain rfl : m = m' := by omega
   exact hk.nil
  ·have hw := hQ.walks 0 (by simp)
   simp only [List.getElem_cons_zero] at hw
   rw [hr] at hw
   have hn := hQ.nd
   rw [List.nodup_append] at hn
   have ha : allN [r] = r.nd.l := by simp [allN]
   rw [ha] at hn
   refine ⟨r.nd.l, ⟨⟨hn.1, fun i hi => ?_⟩, hw⟩, ha, ?_⟩
   ·have hg := hQ.good
    unfold goodAll at hg
    rw [Bool.and_eq_true, decide_eq_true_eq] at hg
    rw [ha] at hg
    exact upto_mem.2 (hg.1 i (List.mem_append_left _ hi))
   ·unfold drvL
    simp [hr]
 have hpx := mvL_perm (ns := ns) hPp
 have hpy := mvL_perm (ns := ns) (perm_of_good hQ.nd hQ.good)
 have happ : ∀ a b : List Int, mvL ns (a ++ b) = mvL ns a + mvL ns b := fun a b => by unfold mvL; rw [List.map_append, List.sum_append]
 rw [happ, hxa] at hpx
 rw [happ, hya] at hpy
 have hnw := hx.2 y hy
 unfold worse secsD at hnw
 rw [hxd, hyd]
 have key : ¬ (mvL ns left2 < mvL ns left ∨ (mvL ns left2 = mvL ns left ∧ outD m l ts ns hd ((0 : Nat) : Int) y < outD m l ts ns hd ((0 : Nat) : Int) x)) := by
  rintro (h | ⟨h, h'⟩)
  ·exact hnw (.inl (by omega))
  ·exact hnw (.inr ⟨by omega, .inl h'⟩)
 have hk : (decide (mvL ns left2 < mvL ns left) || (decide (mvL ns left2 = mvL ns left) && decide (outD m l ts ns hd ((0 : Nat) : Int) y < outD m l ts ns hd ((0 : Nat) : Int) x))) = false := by
  rw [Bool.eq_false_iff]
  intro h
  rw [Bool.or_eq_true, Bool.and_eq_true, decide_eq_true_eq, decide_eq_true_eq, decide_eq_true_eq] at h
  exact key h
 unfold betB
 rw [hk, Bool.and_false, Bool.and_false]
end
end Go.Proofs.YtgcokllbophkkaaGreat
