/-
  Plain: plans, and what is wrong with them.
-/
import Derived.Test.YtgjfjbphngamgaaT13
import Derived.Test.YtgjfjbphngamgaaArg
set_option linter.all false
namespace Go.Proofs.Ytgjfjbphngamgaa
open Go Go.W Go.RowKit

open Classical in
theorem sum_count {α : Type} (x : α) (l : List α) : (l.map fun y => if y = x then 1 else 0).sum = List.count x l := by
  induction l with
  | nil => rfl
  | cons a l ih =>
    rw [List.map_cons, List.sum_cons, ih, List.count_cons]
    by_cases h : a = x <;> simp [h] <;> omega
open Classical in
theorem perm_by {α : Type} {l l' : List α} (h : ∀ f : α → Nat, (l.map f).sum = (l'.map f).sum) : l.Perm l' :=
  List.perm_iff_count.2 fun x => by rw [← sum_count, ← sum_count]; exact h _
/-- a route, as it lies in memory -/
structure Rt where
  trk : Int
  nd : SlA Int
def rtCells (r : Rt) : List Value := [I r.trk, .slice r.nd.A r.nd.l.length r.nd.cap]
structure RtsAt (w : World) (A : Option Addr) (rs : List Rt) : Prop where
  rows : RowsAt 2 rtCells w A rs
  ints : ∀ r ∈ rs, IntsAt w r.nd.A r.nd.l
  cap : ∀ r ∈ rs, r.nd.l.length ≤ r.nd.cap
  len : ∀ r ∈ rs, r.nd.l.length ≤ 1000
  few : rs.length ≤ 1000
theorem RtsAt.below {w w' : World} {A : Option Addr} {rs : List Rt} (h : RtsAt w A rs) (hb : Below w.heap.size w w') : RtsAt w' A rs :=
  ⟨h.rows.below hb, fun r hr => (h.ints r hr).below hb, h.cap, h.len, h.few⟩
theorem RtsAt.sh {w w' : World} {A : Option Addr} {rs : List Rt} {L : List Blk} (h : RtsAt w A rs) (H : SH w [] w' L) : RtsAt w' A rs := h.below H.below
def allN (rs : List Rt) : List Int := rs.flatMap (·.nd.l)
theorem allN_len : ∀ (rs : List Rt), (∀ r ∈ rs, r.nd.l.length ≤ 1000) → (allN rs).length ≤ 1000 * rs.length
  | [], _ => Nat.le_refl _
  | r :: rs, h => by
    have h1 := h r (by simp)
    have h2 := allN_len rs fun x hx => h x (List.mem_cons_of_mem _ hx)
    simp only [allN, List.flatMap_cons, List.length_append, List.length_cons] at h2 ⊢
    omega
noncomputable def routesE (n : Int) (l : List Edg) (ts : List Truck) (ns : List Need) (hd : Int) : List Rt → Int
  | [] => 0
  | r :: rs => if walkE n l ts ns hd r.trk r.nd.l ≠ 0 then walkE n l ts ns hd r.trk r.nd.l else routesE n l ts ns hd rs
def goodAll (k : Nat) (a : List Int) : Bool := decide (∀ i ∈ a, 0 ≤ i ∧ i < (k : Int)) && decide (a.length = k)
noncomputable def planErr (n : Int) (l : List Edg) (ts : List Truck) (ns : List Need) (hd : Int) (rs : List Rt) (left : List Int) : Int :=
  if nightErr n l ts ns hd ≠ 0 then nightErr n l ts ns hd else if routesE n l ts ns hd rs ≠ 0 then routesE n l ts ns hd rs
  else if (twiceB (rs.map (·.trk)) || twiceB (allN rs ++ left)) = true then 6 else if goodAll ns.length (allN rs ++ left) = true then (if sortedB left = true then 0 else 9) else 7
section
variable {n : Int} {l : List Edg} {ts : List Truck} {ns : List Need} {hd : Int}
theorem routesE_drop {rs : List Rt} : ∀ {j : Nat}, j ≤ rs.length → (∀ i (hi : i < rs.length), i < j → walkE n l ts ns hd rs[i].trk rs[i].nd.l = 0) → routesE n l ts ns hd rs = routesE n l ts ns hd (rs.drop j)
  | 0, _, _ => rfl
  | j + 1, hj, h => by
    rw [routesE_drop (j := j) (by omega) (fun i hi hij => h i hi (by omega)), List.drop_eq_getElem_cons (show j < rs.length by omega), routesE]
    have := h j (by omega) (by omega)
    simp [this]
theorem routesE_all {rs : List Rt} (h : ∀ i (hi : i < rs.length), walkE n l ts ns hd rs[i].trk rs[i].nd.l = 0) : routesE n l ts ns hd rs = 0 := by
  rw [routesE_drop (Nat.le_refl _) (fun i hi _ => h i hi)]; simp [routesE]
theorem routesE_at {rs : List Rt} {j : Nat} (hj : j < rs.length) (h : ∀ i (hi : i < rs.length), i < j → walkE n l ts ns hd rs[i].trk rs[i].nd.l = 0) (he : walkE n l ts ns hd rs[j].trk rs[j].nd.l ≠ 0) : routesE n l ts ns hd rs = walkE n l ts ns hd rs[j].trk rs[j].nd.l := by
  rw [routesE_drop (by omega) h, List.drop_eq_getElem_cons hj, routesE, if_pos he]
theorem walkE_route {rt : Int} {rn : List Int} (h : walkE n l ts ns hd rt rn = 0) : nightErr n l ts ns hd = 0 ∧ routeErr ts ns rt rn = 0 := by
  unfold walkE at h
  split at h
  · rename_i h1; exact absurd h h1
  · rename_i h1
    split at h
    · rename_i h2; exact absurd h h2
    · rename_i h2; exact ⟨by simpa using h1, by simpa using h2⟩
end
theorem nodup_sub {a b : List Int} (h : a.Nodup) (hs : ∀ x ∈ a, x ∈ b) : a.length ≤ b.length := List.Nodup.length_le_of_subset h hs
def upto (k : Nat) : List Int := (List.range k).map fun i : Nat => (i : Int)
theorem upto_len (k : Nat) : (upto k).length = k := by simp [upto]
theorem upto_mem {k : Nat} {x : Int} : x ∈ upto k ↔ 0 ≤ x ∧ x < (k : Int) := by
  unfold upto
  rw [List.mem_map]
  constructor
  · rintro ⟨i, hi, rfl⟩; have := List.mem_range.1 hi; omega
  · intro h; exact ⟨x.toNat, List.mem_range.2 (by omega), by omega⟩
theorem upto_nodup (k : Nat) : (upto k).Nodup := by
  unfold upto
  rw [List.nodup_iff_pairwise_ne, List.pairwise_map]
  exact List.Pairwise.imp (fun h he => h (by omega)) (List.nodup_iff_pairwise_ne.1 (List.nodup_range (n := k)))
theorem good_prog {k : Nat} {a : List Int} (hn : a.Nodup) : goodAll k a = true ↔ (∀ i : Nat, i < k → (i : Int) ∈ a) ∧ a.length ≤ k := by
  simp only [goodAll, Bool.and_eq_true, decide_eq_true_eq]
  constructor
  · rintro ⟨h1, h2⟩
    refine ⟨fun i hi => Classical.byContradiction fun hc => ?_, by omega⟩
    have h3 := nodup_sub (a := (i : Int) :: a) (b := upto k) (List.nodup_cons.2 ⟨hc, hn⟩) (fun x hx => by
      rcases List.mem_cons.1 hx with rfl | hx
      · exact upto_mem.2 (by omega)
      · exact upto_mem.2 (h1 x hx))
    rw [upto_len, List.length_cons] at h3; omega
  · rintro ⟨h1, h2⟩
    have hsub : ∀ x ∈ upto k, x ∈ a := fun x hx => by
      have h3 := upto_mem.1 hx
      obtain ⟨i, rfl⟩ := Int.eq_ofNat_of_zero_le h3.1
      exact h1 i (by omega)
    have h4 := nodup_sub (upto_nodup k) hsub
    rw [upto_len] at h4
    refine ⟨fun i hi => Classical.byContradiction fun hc => ?_, by omega⟩
    have h3 := nodup_sub (a := i :: upto k) (b := a) (List.nodup_cons.2 ⟨fun h => hc (upto_mem.1 h), upto_nodup k⟩) (fun x hx => by
      rcases List.mem_cons.1 hx with rfl | hx
      · exact hi
      · exact hsub x hx)
    rw [List.length_cons, upto_len] at h3; omega
end Go.Proofs.Ytgjfjbphngamgaa

/-
  Walk: Feasible.
-/
set_option linter.all false
namespace Go.Proofs.Ytgjfjbphngamgaa
open Go Go.W Go.RowKit

theorem truckWalkE (n hd rt : Int) (A B C R : Option Addr) (l : List Edg) (ts : List Truck) (ns : List Need) (rn : List Int) (ca cb cc cr : Nat) (w0 : World) (hz : EdgsAt w0 A l) (ht : RowsAt 4 truckCells w0 B ts) (hn : RowsAt 2 needCells w0 C ns) (hcc : ns.length ≤ cc) (hr : IntsAt w0 R rn) (hrl : rn.length ≤ maxLen) (hrc : rn.length ≤ cr) :
    Calls Try.prog 51 #[.agg #[I n, .slice A l.length ca, .slice B ts.length cb, .slice C ns.length cc, I hd], .agg #[I rt, .slice R rn.length cr]] w0 fun e w' =>
      ∃ (P V : Option Addr) (nv cv : Nat) (L : List Blk), e = .returned (.tuple #[.pointer P, .slice V nv cv, I (walkE n l ts ns hd rt rn)]) ∧ SH w0 [] w' L :=
  Calls.mono (truckWalk n hd rt A B C R l ts ns rn ca cb cc cr w0 hz ht hn hcc hr hrl hrc) fun _ _ h => by
    by_cases hE : walkE n l ts ns hd rt rn = 0
    · obtain ⟨g, m, V, cv, Lv, _, h1, _, h2⟩ := h.2 hE
      exact ⟨_, V, _, cv, _, by rw [hE]; exact h1, h2⟩
    · obtain ⟨h1, h2⟩ := h.1 hE
      exact ⟨none, none, 0, 0, _, h1, h2⟩
theorem onesSrc {α : Type} {enc : α → Value} {w : World} {A : Option Addr} {l : List α} (h : OnesAt enc w A l) : l.length = 0 ∨ ∃ b o, A = some ⟨b, o, none⟩ ∧ cellsAt w b o (l.map enc) := by
  rcases Nat.eq_zero_or_pos l.length with h0 | h0
  · exact .inl h0
  · obtain ⟨b, o, rfl, _⟩ := h 0 h0
    exact .inr ⟨b, o, rfl, h.cells⟩
theorem _root_.Go.W.OwnS.le {A : Option Addr} {cap n el sz : Nat} {xs : List Value} {Lo : List Blk} (h : OwnS A cap n xs el sz Lo) : n ≤ cap := by
  rcases h.form with ⟨_, q, _, _⟩ | ⟨_, _, _, _, q, _, _⟩ <;> omega
theorem ints_one (l : List Int) : ((l.map I).all (·.oneCell')) = true := by
  rw [List.all_eq_true]
  intro v hv
  obtain ⟨x, _, rfl⟩ := List.mem_map.1 hv
  rfl
theorem fz1 {a b c d : Blk} {Lt Lq : List Blk} : (a :: b :: ([c, d] ++ (Lt ++ Lq))).Perm (([a, b, c, d] ++ Lq) ++ Lt) := perm_by fun f => by simp <;> omega
theorem fz2 {a b c d : Blk} {Lt Lq : List Blk} : (([a, b, c, d] ++ Lq) ++ Lt).Perm (([a, b, c, d] ++ Lt) ++ Lq) := perm_by fun f => by simp <;> omega
theorem fz3 {c d : Blk} {Lt Lq : List Blk} : ([c, d] ++ (Lt ++ Lq)).Perm (([c, d] ++ Lt) ++ Lq) := perm_by fun f => by simp <;> omega
theorem fz4 {a b c d : Blk} {Lt Lq : List Blk} : ([c, d] ++ (Lt ++ Lq)).Sublist (([a, b, c, d] ++ Lt) ++ Lq) := by
  rw [← List.append_assoc]
  exact List.Sublist.append (List.Sublist.append (((List.Sublist.refl [c, d]).cons b).cons a) (List.Sublist.refl Lt)) (List.Sublist.refl Lq)
set_option maxHeartbeats 1000000 in
theorem truckFeasible (n hd : Int) (A B C P F : Option Addr) (l : List Edg) (ts : List Truck) (ns : List Need) (rs : List Rt) (left : List Int) (ca cb cc cp cf : Nat) (w0 : World) (hz : EdgsAt w0 A l) (ht : RowsAt 4 truckCells w0 B ts) (hn : RowsAt 2 needCells w0 C ns) (hcc : ns.length ≤ cc)
    (hP : RtsAt w0 P rs) (hF : IntsAt w0 F left) (hfl : left.length ≤ 1000) (hnl : ns.length ≤ 1000) :
    Calls Try.prog 37 #[.agg #[I n, .slice A l.length ca, .slice B ts.length cb, .slice C ns.length cc, I hd], .agg #[.slice P rs.length cp, .slice F left.length cf]] w0 fun e w' =>
      e = .returned (I (planErr n l ts ns hd rs left)) ∧ Below w0.heap.size w0 w' := by
  have H := SH.refl w0
  have hfew := hP.few
  refine Calls.ofWP Try.func37 rfl Try.results37 Try.ntmps37 rfl ?_
  refine WP.seq ?_
  refine WP.region ?_
  refine OPS.box rfl rfl rfl rfl (cA rfl) H ?_
  clear H; intro g2 w H
  refine OPS.box rfl rfl rfl rfl (cA rfl) H ?_
  clear H; intro g3 w H
  refine OPS.val rfl rfl rfl (Ev.asI rfl) ?_
  refine OPS.nil ?_
  refine WP.seq ?_
  refine WP.seq ?_
  refine WP.region ?_
  refine OPS.val rfl rfl rfl ((by exact Ev.loadO 1 H rfl (agg_run rfl) (size_run rfl) (by rfl) rfl)) ?_
  refine OPS.call (d := some 15) rfl rfl rfl (EvC.func (fun_run rfl)) (truckCheck n hd A B C l ts ns ca cb cc w (hz.sh H) (ht.sh H) (hn.sh H) hcc) ?_
  rintro _ w ⟨rfl, hb⟩
  refine ⟨_, rfl, ?_⟩
  replace H := H.toBelow hb; clear hb
  refine OPS.val rfl rfl rfl (Ev.asI rfl) ?_
  refine OPS.nil ?_
  refine WP.seq ?_
  refine WP.region ?_
  refine OPS.val rfl rfl rfl (Ev.mvI rfl) ?_
  refine OPS.val rfl rfl rfl (Ev.neq rfl rfl) ?_
  refine OPS.nil ?_
  refine WP.cond rfl (fun hc2 => ?_) (fun hc2 => ?_)
  · refine WP.seq ?_
    refine WP.region ?_
    refine OPS.val rfl rfl rfl (Ev.mvI rfl) ?_
    refine OPS.val rfl rfl rfl (Ev.asI rfl) ?_
    refine OPS.nil ?_
    refine WP.ret ⟨_, rfl, ?_⟩
    have h : nightErr n l ts ns hd ≠ 0 := by simpa using hc2
    exact ⟨by rw [planErr, if_pos h]; rfl, H.below⟩
  have h0 : nightErr n l ts ns hd = 0 := by simpa using hc2
  refine WP.skip ?_
  refine WP.seq ?_
  refine WP.region ?_
  refine OPS.val rfl rfl rfl (Ev.asS rfl) ?_
  refine OPS.val rfl rfl rfl (Ev.asS rfl) ?_
  refine OPS.nil ?_
  refine WP.seq ?_
  refine WP.seq ?_
  refine WP.region ?_
  refine OPS.val rfl rfl rfl (Ev.fieldAddr (fld_run rfl) rfl) ?_
  refine OPS.val rfl rfl rfl (Ev.load1 (agg_run rfl) rfl (by exact H.ldL 0 rfl _ rfl)) ?_
  refine OPS.val rfl rfl rfl (Ev.len (el_run rfl) rfl) ?_
  refine OPS.val rfl rfl rfl (Ev.mvI rfl) ?_
  refine OPS.nil ?_
  refine WP.block ?_
  refine WP.loop [4, 6, 7, 9, 10, 11, 12, 22, 23, 24, 25, 26, 27, 28, 29, 30, 31, 32, 33, 34, 35, 36, 37, 38, 39, 40, 41, 42, 43, 44, 45] (fun k e w' => ∃ (j : Nat) (T Q : Option Addr) (ct cq : Nat) (Lt Lq : List Blk), j + k = rs.length ∧ e 22 = I j ∧ e 6 = .slice T j ct ∧ e 7 = .slice Q (allN (rs.take j)).length cq ∧ OwnS T ct j (((rs.take j).map (·.trk)).map I) 3 1 Lt ∧ OwnS Q cq (allN (rs.take j)).length ((allN (rs.take j)).map I) 3 1 Lq ∧ (∀ i (hi : i < rs.length), i < j → walkE n l ts ns hd rs[i].trk rs[i].nd.l = 0) ∧ SH w0 [] w' ([⟨g3, 52, [.slice P rs.length cp, .slice F left.length cf]⟩, ⟨g2, 28, [I n, .slice A l.length ca, .slice B ts.length cb, .slice C ns.length cc, I hd]⟩] ++ (Lt ++ Lq))) (rs.length) (⟨0, none, none, 0, 0, [], [], by omega, rfl, rfl, rfl, OwnS.nil, OwnS.nil, fun i _ h => absurd h (by omega), by rw [List.append_nil, List.append_nil]; exact H⟩) ?_
  clear H
  rintro k u w ⟨j, T, Q, ct, cq, Lt, Lq, hk, h22, h6, h7, hOT, hOQ, hall, H⟩
  refine WP.know (t := 22) h22 (WP.know (t := 6) h6 (WP.know (t := 7) h7 ?_))
  have hlenA : (allN (rs.take j)).length ≤ 1000000 := by
    have h1 := allN_len (rs.take j) (fun r hr => hP.len r (List.mem_of_mem_take hr))
    have h2 : (rs.take j).length ≤ j := List.length_take_le _ _
    omega
  refine WP.seq ?_
  refine WP.region ?_
  refine OPS.val rfl rfl rfl (Ev.lss rfl rfl) ?_
  refine OPS.nil ?_
  refine WP.seq ?_
  refine WP.cond rfl (fun hc6 => ?_) (fun hc6 => ?_)
  · have hlt : j < rs.length := by simpa using hc6
    obtain ⟨b, o, rfl, hc⟩ := hP.rows j hlt
    have hr := hP.ints rs[j] (List.getElem_mem hlt)
    have hrl := hP.len rs[j] (List.getElem_mem hlt)
    have hrc := hP.cap rs[j] (List.getElem_mem hlt)
    have hc' := cellsAt_sh H hc
    have htk : rs.take (j + 1) = rs.take j ++ [rs[j]] := List.take_succ_eq_append_getElem hlt
    refine WP.skip ?_
    refine WP.seq ?_
    refine WP.block ?_
    refine WP.seq ?_
    refine WP.region ?_
    refine OPS.val rfl rfl rfl ((by exact Ev.indexAddr (el_run rfl) (size_run rfl) rfl rfl rfl (by omega))) ?_
    refine OPS.val rfl rfl rfl (Ev.loadN (rtCells rs[j]) (agg_run rfl) (size_run rfl) rfl hc') ?_
    refine OPS.alloc rfl rfl rfl rfl (zero_run rfl) rfl H ?_
    clear H; intro g9 w H
    refine OPS.store 0 _ rfl rfl rfl (size_run rfl) rfl (cA rfl) rfl rfl H rfl (by simp) ?_
    clear H; intro w H; try simp only [List.set_cons_zero, List.set_cons_succ, putL, Nat.zero_add] at H
    refine OPS.nil ?_
    refine WP.seq ?_
    refine WP.seq ?_
    refine WP.region ?_
    refine OPS.val rfl rfl rfl ((by exact Ev.loadO 2 H rfl (agg_run rfl) (size_run rfl) (by rfl) rfl)) ?_
    refine OPS.val rfl rfl rfl ((by exact Ev.loadO 0 H rfl (agg_run rfl) (size_run rfl) (by rfl) rfl)) ?_
    refine OPS.call (d := some 29) rfl rfl rfl (EvC.func (fun_run rfl)) (truckWalkE n hd rs[j].trk A B C rs[j].nd.A l ts ns rs[j].nd.l ca cb cc rs[j].nd.cap w (hz.sh H) (ht.sh H) (hn.sh H) hcc (hr.sh H) (by unfold maxLen; omega) hrc) ?_
    rintro _ w ⟨PP, V, nv, cv, L', rfl, Hc⟩
    refine ⟨_, rfl, ?_⟩
    replace H := SH.call (Lv := []) (by rw [List.append_nil]; exact H) Hc
    replace H := H.drop (List.sublist_append_left _ _)
    clear Hc
    refine OPS.val rfl rfl rfl (Ev.mvT rfl) ?_
    refine OPS.val rfl rfl rfl (Ev.extract rfl rfl) ?_
    refine OPS.val rfl rfl rfl (Ev.extract rfl rfl) ?_
    refine OPS.val rfl rfl rfl (Ev.extract rfl rfl) ?_
    refine OPS.val rfl rfl rfl (Ev.asP rfl) ?_
    refine OPS.val rfl rfl rfl (Ev.asS rfl) ?_
    refine OPS.val rfl rfl rfl (Ev.asI rfl) ?_
    refine OPS.nil ?_
    refine WP.seq ?_
    refine WP.region ?_
    refine OPS.val rfl rfl rfl (Ev.mvI rfl) ?_
    refine OPS.val rfl rfl rfl (Ev.neq rfl rfl) ?_
    refine OPS.nil ?_
    refine WP.cond rfl (fun hc9 => ?_) (fun hc9 => ?_)
    · refine WP.seq ?_
      refine WP.region ?_
      refine OPS.val rfl rfl rfl (Ev.mvI rfl) ?_
      refine OPS.val rfl rfl rfl (Ev.asI rfl) ?_
      refine OPS.nil ?_
      refine WP.ret ⟨_, rfl, ?_⟩
      have h : walkE n l ts ns hd rs[j].trk rs[j].nd.l ≠ 0 := by simpa using hc9
      have hE := routesE_at hlt hall h
      exact ⟨by rw [planErr, if_neg (by simp [h0]), hE, if_pos h]; rfl, H.below⟩
    have h9 : walkE n l ts ns hd rs[j].trk rs[j].nd.l = 0 := by simpa using hc9
    refine WP.skip ?_
    refine WP.seq ?_
    refine WP.region ?_
    refine OPS.val rfl rfl rfl (Ev.mvS rfl) ?_
    refine OPS.val rfl rfl rfl (Ev.fieldAddr (fld_run rfl) rfl) ?_
    refine OPS.val rfl rfl rfl (Ev.load1 (agg_run rfl) rfl (by exact H.ldL 0 rfl _ rfl)) ?_
    refine OPS.buildSlice rfl rfl rfl rfl (bsl_31_1_0 rfl) H ?_
    clear H; intro g39 w H
    refine OPS.append (m := 1) (news := [I rs[j].trk]) (R := [⟨g39, 3, [I rs[j].trk]⟩, ⟨g9, 87, rtCells rs[j]⟩, ⟨g3, 52, [.slice (some ⟨b, o, none⟩) rs.length cp, .slice F left.length cf]⟩, ⟨g2, 28, [I n, .slice A l.length ca, .slice B ts.length cb, .slice C ns.length cc, I hd]⟩] ++ Lq) rfl rfl rfl rfl rfl (sl_run rfl) rfl rfl hOT rfl (src_own H 0 rfl) rfl (by omega) (by unfold maxLen; omega) H fz1 ?_
    clear H hOT; intro T ct Lt w hOT H
    refine OPS.val rfl rfl rfl (Ev.asS rfl) ?_
    refine OPS.nil ?_
    refine WP.region ?_
    refine OPS.val rfl rfl rfl (Ev.mvS rfl) ?_
    refine OPS.val rfl rfl rfl (Ev.fieldAddr (fld_run rfl) rfl) ?_
    refine OPS.val rfl rfl rfl (Ev.load1 (agg_run rfl) rfl (by exact H.ldL 1 rfl _ rfl)) ?_
    refine OPS.appendE (m := rs[j].nd.l.length) (news := rs[j].nd.l.map I) (R := [⟨g39, 3, [I rs[j].trk]⟩, ⟨g9, 87, rtCells rs[j]⟩, ⟨g3, 52, [.slice (some ⟨b, o, none⟩) rs.length cp, .slice F left.length cf]⟩, ⟨g2, 28, [I n, .slice A l.length ca, .slice B ts.length cb, .slice C ns.length cc, I hd]⟩] ++ Lt) rfl rfl rfl rfl rfl (sl_run rfl) rfl rfl hOQ (by simp) (onesSrc (hr.sh H)) (ints_one _) (by omega) (by unfold maxLen; omega) H fz2 ?_
    clear H hOQ; intro Q cq Lq w hOQ H
    refine OPS.val rfl rfl rfl (Ev.asS rfl) ?_
    refine OPS.nil ?_
    refine WP.region ?_
    refine OPS.val rfl rfl rfl (Ev.add rfl rfl (by unfold fits; omega)) ?_
    refine OPS.val rfl rfl rfl (Ev.mvI rfl) ?_
    refine OPS.nil ?_
    have eA : allN (rs.take (j + 1)) = allN (rs.take j) ++ rs[j].nd.l := by rw [htk]; unfold allN; rw [List.flatMap_append, List.flatMap_cons, List.flatMap_nil, List.append_nil]
    have eL : (allN (rs.take (j + 1))).length = (allN (rs.take j)).length + rs[j].nd.l.length := by rw [eA, List.length_append]
    refine ⟨(by repeat (first | exact Agree.refl _ _ | exact Agree.mix _ _ _ | refine Agree.upd rfl ?_ | refine Agree.mix2 rfl ?_)), k - 1, by omega, j + 1, T, Q, ct, cq, Lt, Lq, by omega, rfl, rfl, (by rw [eL]; rfl), (by rw [htk, List.map_append, List.map_append]; exact hOT), (by rw [eL, eA, List.map_append]; exact hOQ), fun i hi hij => ?_, H.drop fz4⟩
    rcases Nat.lt_succ_iff_lt_or_eq.1 hij with h | rfl
    · exact hall i hi h
    · exact h9
  have hj : j = rs.length := by simp at hc6; omega
  subst hj
  rw [List.take_length] at hOT hOQ hlenA
  have hE := routesE_all (n := n) (l := l) (ts := ts) (ns := ns) (hd := hd) (fun i hi => hall i hi hi)
  have e0 : planErr n l ts ns hd rs left = if (twiceB (rs.map (·.trk)) || twiceB (allN rs ++ left)) = true then 6 else if goodAll ns.length (allN rs ++ left) = true then (if sortedB left = true then 0 else 9) else 7 := by rw [planErr, if_neg (by simp [h0]), if_neg (by simp [hE])]
  have hTl : (rs.map (·.trk)).length = rs.length := by simp
  rw [show (List.take rs.length rs) = rs from List.take_length]
  refine WP.exit ?_
  refine XB.hit ?_
  refine WP.seq ?_
  refine WP.region ?_
  refine OPS.val rfl rfl rfl (Ev.mvS rfl) ?_
  refine OPS.val rfl rfl rfl (Ev.fieldAddr (fld_run rfl) rfl) ?_
  refine OPS.val rfl rfl rfl (Ev.load1 (agg_run rfl) rfl (by exact H.ldL 0 rfl _ rfl)) ?_
  refine OPS.appendE (m := left.length) (news := left.map I) (R := [⟨g3, 52, [.slice P rs.length cp, .slice F left.length cf]⟩, ⟨g2, 28, [I n, .slice A l.length ca, .slice B ts.length cb, .slice C ns.length cc, I hd]⟩] ++ Lt) rfl rfl rfl rfl rfl (sl_run rfl) rfl rfl hOQ (by simp) (onesSrc (hF.sh H)) (ints_one _) (by omega) (by unfold maxLen; omega) H fz3 ?_
  clear H hOQ; intro Q cq Lq w hOQ H
  rw [← List.map_append, ← List.length_append] at hOQ
  have hLA : (allN rs ++ left).length ≤ 1001000 := by rw [List.length_append]; omega
  have hcq := hOQ.le
  have hct := hOT.le
  rw [← List.length_append]
  refine OPS.val rfl rfl rfl (Ev.asS rfl) ?_
  refine OPS.nil ?_
  refine WP.seq ?_
  refine WP.seq ?_
  refine WP.region ?_
  refine OPS.val rfl rfl rfl (Ev.mvS rfl) ?_
  have hxT := (hOT.ones (R := [⟨g3, 52, [.slice P rs.length cp, .slice F left.length cf]⟩, ⟨g2, 28, [I n, .slice A l.length ca, .slice B ts.length cb, .slice C ns.length cc, I hd]⟩] ++ Lq) (H.perm (by exact perm_by fun f => by simp <;> omega))).1
  have hxQ := (hOQ.ones H).1
  have hTw := truckTwice T (rs.map (·.trk)) ct w hxT (by rw [hTl]; unfold maxLen; omega) (by omega)
  rw [hTl] at hTw
  refine OPS.call (d := some 51) rfl rfl rfl (EvC.func (fun_run rfl)) (hTw) ?_
  rintro _ w ⟨rfl, hb⟩
  refine ⟨_, rfl, ?_⟩
  replace H := H.toBelow hb; clear hb
  refine OPS.val rfl rfl rfl (Ev.mvB rfl) ?_
  refine OPS.gval rfl rfl rfl rfl rfl (fun hg => Ev.mvS (by rfl)) ?_
  refine OPS.gcall0 (f := 52) (truckTwice Q (allN rs ++ left) cq w ((hOQ.ones H).1) (by unfold maxLen; omega) (by omega)) (fun _ _ h => h) rfl rfl rfl rfl rfl (fun hg => EvC.conv (EvC.func (fun_run rfl)) (l1 (by exact gvE hg rfl))) ?_
  intro w hbc; replace H := H.toBelow hbc
  refine OPS.val rfl rfl rfl ((by exact Ev.pickOr rfl rfl rfl)) ?_
  refine OPS.nil ?_
  refine WP.cond rfl (fun hc15 => ?_) (fun hc15 => ?_)
  · refine WP.seq ?_
    refine WP.region ?_
    refine OPS.val rfl rfl rfl (Ev.asI rfl) ?_
    refine OPS.nil ?_
    refine WP.ret ⟨_, rfl, ?_⟩
    exact ⟨by rw [e0, if_pos hc15]; rfl, H.below⟩
  have h15 : twiceB (rs.map (·.trk)) = false ∧ twiceB (allN rs ++ left) = false := by simpa using hc15
  have hnd : (allN rs ++ left).Nodup := by simpa [twiceB] using h15.2
  have e1 : planErr n l ts ns hd rs left = if goodAll ns.length (allN rs ++ left) = true then (if sortedB left = true then 0 else 9) else 7 := by rw [e0, if_neg (by rw [h15.1, h15.2]; decide)]
  refine WP.skip ?_
  refine WP.seq ?_
  refine WP.seq ?_
  refine WP.region ?_
  refine OPS.val rfl rfl rfl (Ev.fieldAddr (fld_run rfl) rfl) ?_
  refine OPS.val rfl rfl rfl (Ev.load1 (agg_run rfl) rfl (by exact H.ldL 1 rfl _ rfl)) ?_
  refine OPS.val rfl rfl rfl (Ev.len (el_run rfl) rfl) ?_
  refine OPS.val rfl rfl rfl (Ev.mvI rfl) ?_
  refine OPS.nil ?_
  refine WP.block ?_
  refine WP.loop [4, 13, 59, 60, 61, 62, 63, 64, 65, 66] (fun k e w' => ∃ j : Nat, j + k = ns.length ∧ e 59 = I j ∧ (∀ i : Nat, i < j → (i : Int) ∈ allN rs ++ left) ∧ SH w0 [] w' ([⟨g3, 52, [.slice P rs.length cp, .slice F left.length cf]⟩, ⟨g2, 28, [I n, .slice A l.length ca, .slice B ts.length cb, .slice C ns.length cc, I hd]⟩] ++ Lt ++ Lq)) (ns.length) (⟨0, by omega, rfl, (fun i h => absurd h (by omega)), H⟩) ?_
  clear H
  rintro k u w ⟨j, hk, h59, hin, H⟩
  refine WP.know (t := 59) h59 ?_
  have hxQ := (hOQ.ones H).1
  refine WP.seq ?_
  refine WP.region ?_
  refine OPS.val rfl rfl rfl (Ev.lss rfl rfl) ?_
  refine OPS.nil ?_
  refine WP.seq ?_
  refine WP.cond rfl (fun hc18 => ?_) (fun hc18 => ?_)
  · refine WP.skip ?_
    refine WP.seq ?_
    refine WP.block ?_
    refine WP.seq ?_
    refine WP.region ?_
    refine OPS.val rfl rfl rfl (Ev.mvI rfl) ?_
    refine OPS.val rfl rfl rfl (Ev.asI rfl) ?_
    refine OPS.nil ?_
    refine WP.seq ?_
    refine WP.region ?_
    refine OPS.val rfl rfl rfl (Ev.mvS rfl) ?_
    refine OPS.val rfl rfl rfl (Ev.mvI rfl) ?_
    refine OPS.call (d := some 64) rfl rfl rfl (EvC.func (fun_run rfl)) (slContains Q (allN rs ++ left) cq j w hxQ (by unfold maxLen; omega)) ?_
    rintro _ w ⟨rfl, hb⟩
    refine ⟨_, rfl, ?_⟩
    replace H := H.toBelow hb; clear hb
    refine OPS.val rfl rfl rfl (Ev.not rfl) ?_
    refine OPS.nil ?_
    refine WP.cond rfl (fun hc20 => ?_) (fun hc20 => ?_)
    · refine WP.seq ?_
      refine WP.region ?_
      refine OPS.val rfl rfl rfl (Ev.asI rfl) ?_
      refine OPS.nil ?_
      refine WP.ret ⟨_, rfl, ?_⟩
      have hni : ¬ (j : Int) ∈ allN rs ++ left := by simpa using hc20
      have hlt : j < ns.length := by simpa using hc18
      have hg : ¬ goodAll ns.length (allN rs ++ left) = true := fun h => hni (((good_prog hnd).1 h).1 j hlt)
      exact ⟨by rw [e1, if_neg hg]; rfl, H.below⟩
    refine WP.skip ?_
    refine WP.region ?_
    refine OPS.val rfl rfl rfl (Ev.add rfl rfl (by unfold fits; omega)) ?_
    refine OPS.val rfl rfl rfl (Ev.mvI rfl) ?_
    refine OPS.nil ?_
    have hii : (j : Int) ∈ allN rs ++ left := of_decide_eq_true (by simpa only [Bool.not_eq_false'] using hc20)
    have hlt : j < ns.length := by simpa using hc18
    refine ⟨(by repeat (first | exact Agree.refl _ _ | exact Agree.mix _ _ _ | refine Agree.upd rfl ?_ | refine Agree.mix2 rfl ?_)), k - 1, by omega, j + 1, by omega, rfl, fun i hi => ?_, H⟩
    rcases Nat.lt_succ_iff_lt_or_eq.1 hi with h | rfl
    · exact hin i h
    · exact hii
  have hj : j = ns.length := by simp at hc18; omega
  subst hj
  refine WP.exit ?_
  refine XB.hit ?_
  refine WP.seq ?_
  refine WP.block ?_
  refine WP.seq ?_
  refine WP.region ?_
  refine OPS.val rfl rfl rfl (Ev.mvS rfl) ?_
  refine OPS.val rfl rfl rfl (Ev.len (el_run rfl) rfl) ?_
  refine OPS.val rfl rfl rfl (Ev.fieldAddr (fld_run rfl) rfl) ?_
  refine OPS.val rfl rfl rfl (Ev.load1 (agg_run rfl) rfl (by exact H.ldL 1 rfl _ rfl)) ?_
  refine OPS.val rfl rfl rfl (Ev.len (el_run rfl) rfl) ?_
  refine OPS.val rfl rfl rfl (Ev.gtr rfl rfl) ?_
  refine OPS.val rfl rfl rfl (Ev.asB rfl) ?_
  refine OPS.nil ?_
  refine WP.cond rfl (fun hc23 => ?_) (fun hc23 => ?_)
  · refine WP.seq ?_
    refine WP.region ?_
    refine OPS.val rfl rfl rfl (Ev.asI rfl) ?_
    refine OPS.nil ?_
    refine WP.ret ⟨_, rfl, ?_⟩
    have hlt : ns.length < (allN rs ++ left).length := by simp at hc23; simp; omega
    have hg : ¬ goodAll ns.length (allN rs ++ left) = true := fun h => absurd ((good_prog hnd).1 h).2 (by omega)
    exact ⟨by rw [e1, if_neg hg]; rfl, H.below⟩
  have hlt : ¬ ns.length < (allN rs ++ left).length := by simp at hc23; simp; omega
  have hg : goodAll ns.length (allN rs ++ left) = true := (good_prog hnd).2 ⟨hin, by omega⟩
  rw [e1, if_pos hg]
  refine WP.seq ?_
  refine WP.region ?_
  refine OPS.val rfl rfl rfl (Ev.fieldAddr (fld_run rfl) rfl) ?_
  refine OPS.val rfl rfl rfl (Ev.load1 (agg_run rfl) rfl (by exact H.ldL 0 rfl _ rfl)) ?_
  refine OPS.call (d := some 77) rfl rfl rfl (EvC.func (fun_run rfl)) (slIsSorted F left cf w (hF.sh H) (by unfold maxLen; omega)) ?_
  rintro _ w ⟨rfl, hb⟩
  refine ⟨_, rfl, ?_⟩
  replace H := H.toBelow hb; clear hb
  refine OPS.val rfl rfl rfl (Ev.not rfl) ?_
  refine OPS.val rfl rfl rfl (Ev.asB rfl) ?_
  refine OPS.nil ?_
  refine WP.cond rfl (fun hc25 => ?_) (fun hc25 => ?_)
  · refine WP.seq ?_
    refine WP.region ?_
    refine OPS.val rfl rfl rfl (Ev.asI rfl) ?_
    refine OPS.nil ?_
    refine WP.ret ⟨_, rfl, ?_⟩
    exact ⟨by rw [if_neg (by simpa using hc25)]; rfl, H.below⟩
  refine WP.skip ?_
  refine WP.seq ?_
  refine WP.region ?_
  refine OPS.val rfl rfl rfl (Ev.asI rfl) ?_
  refine OPS.nil ?_
  refine WP.ret ⟨_, rfl, ?_⟩
  exact ⟨by rw [if_pos (by simpa using hc25)]; rfl, H.below⟩
end Go.Proofs.Ytgjfjbphngamgaa
