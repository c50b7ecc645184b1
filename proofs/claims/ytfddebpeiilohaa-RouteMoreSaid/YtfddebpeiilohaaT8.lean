/-
  Walks: Check of a night.
-/
import Derived.Test.YtfddebpeiilohaaT7
set_option linter.all false
namespace Go.Proofs.Ytfddebpeiilohaa
open Go Go.W Go.RowKit

structure Truck where
  depot : Int
  cap : Int
  from_ : Int
  to_ : Int
instance : Inhabited Truck := ⟨⟨0, 0, 0, 0⟩⟩
def truckCells (t : Truck) : List Value := [I t.depot, I t.cap, I t.from_, I t.to_]
theorem truckCells_len (t : Truck) : (truckCells t).length = 4 := rfl
def truckBad (n : Int) (t : Truck) : Bool := !inB t.depot 0 (n - 1)
def truckRange (t : Truck) : Bool := !inB t.cap 1 32 || decide (t.from_ < 0) || decide (t.to_ < t.from_) || decide (86400 < t.to_)
def trucksErr (n : Int) : List Truck → Int
  | [] => 0
  | t :: l => if truckBad n t = true then 7 else if truckRange t = true then 1 else trucksErr n l
def needBad (n : Int) (x : Need) : Bool := !inB x.node 0 (n - 1)
def needRange (x : Need) : Bool := decide (x.move = 0) || !inB x.move (-32) 32
def needsErr (n : Int) : List Need → Int
  | [] => 0
  | t :: l => if needBad n t = true then 7 else if needRange t = true then 1 else needsErr n l
theorem trucksErr_drop {n : Int} {l : List Truck} : ∀ {j : Nat}, j ≤ l.length → (∀ i (hi : i < l.length), i < j → truckBad n l[i] = false ∧ truckRange l[i] = false) → trucksErr n l = trucksErr n (l.drop j)
  | 0, _, _ => by simp
  | j + 1, hj, h => by
    rw [trucksErr_drop (j := j) (by omega) (fun i hi hij => h i hi (by omega)), List.drop_eq_getElem_cons (show j < l.length by omega), trucksErr]
    obtain ⟨h1, h2⟩ := h j (by omega) (by omega)
    rw [h1, h2]; simp
theorem needsErr_drop {n : Int} {l : List Need} : ∀ {j : Nat}, j ≤ l.length → (∀ i (hi : i < l.length), i < j → needBad n l[i] = false ∧ needRange l[i] = false) → needsErr n l = needsErr n (l.drop j)
  | 0, _, _ => by simp
  | j + 1, hj, h => by
    rw [needsErr_drop (j := j) (by omega) (fun i hi hij => h i hi (by omega)), List.drop_eq_getElem_cons (show j < l.length by omega), needsErr]
    obtain ⟨h1, h2⟩ := h j (by omega) (by omega)
    rw [h1, h2]; simp
theorem trucksErr_ok {n : Int} : ∀ {l : List Truck}, trucksErr n l = 0 → ∀ t ∈ l, truckBad n t = false ∧ truckRange t = false
  | [], _, _, h => by cases h
  | a :: l, h, t, ht => by
    rw [trucksErr] at h
    split at h
    · cases h
    · rename_i h1
      split at h
      · cases h
      · rename_i h2
        rcases List.mem_cons.1 ht with rfl | ht
        · exact ⟨by simpa using h1, by simpa using h2⟩
        · exact trucksErr_ok h t ht
theorem needsErr_ok {n : Int} : ∀ {l : List Need}, needsErr n l = 0 → ∀ t ∈ l, needBad n t = false ∧ needRange t = false
  | [], _, _, h => by cases h
  | a :: l, h, t, ht => by
    rw [needsErr] at h
    split at h
    · cases h
    · rename_i h1
      split at h
      · cases h
      · rename_i h2
        rcases List.mem_cons.1 ht with rfl | ht
        · exact ⟨by simpa using h1, by simpa using h2⟩
        · exact needsErr_ok h t ht
def needTwice (ns : List Need) : Bool := twiceB (ns.map (·.node))
def fullB (ts : List Truck) (ns : List Need) : Bool := decide ((8 : Int) < ts.length) || decide ((16 : Int) < ns.length)
def nightErr (n : Int) (l : List Edg) (ts : List Truck) (ns : List Need) (h : Int) : Int :=
  if roadErr n l ≠ 0 then roadErr n l else if fullB ts ns = true then 8 else if trucksErr n ts ≠ 0 then trucksErr n ts else if needsErr n ns ≠ 0 then needsErr n ns else if needTwice ns = true then 6 else if inB h 0 3600 = true then 0 else 1

theorem truckCheckF (y : Need) (g : Nat) (nd mv : Int) (w0 : World) (hc : w0.cell? ⟨g, 0, none⟩ = some (I nd)) :
    Calls Try.prog 52 #[.agg #[I y.node, I y.move], .pointer (some ⟨g, 0, none⟩)] w0 fun e w' => e = .returned (.bool (decide (y.node = nd))) ∧ Below w0.heap.size w0 w' := by
  have H := SH.refl w0
  refine Calls.ofWP Try.func52 rfl Try.results52 Try.ntmps52 rfl ?_
  refine WP.seq ?_
  refine WP.region ?_
  refine OPS.box rfl rfl rfl rfl (cA rfl) H ?_
  clear H; intro g2 w H
  refine OPS.val rfl rfl rfl (Ev.asB rfl) ?_
  refine OPS.nil ?_
  refine WP.seq ?_
  refine WP.region ?_
  refine OPS.val rfl rfl rfl (Ev.fieldAddr (fld_run rfl) rfl) ?_
  refine OPS.val rfl rfl rfl (Ev.load1 (agg_run rfl) rfl (by exact H.ldL 0 rfl _ rfl)) ?_
  refine OPS.val rfl rfl rfl (Ev.fieldAddr (fld_run rfl) rfl) ?_
  refine OPS.val rfl rfl rfl (Ev.load1 (agg_run rfl) rfl (by exact H.ld0 (by assumption))) ?_
  refine OPS.val rfl rfl rfl (Ev.eql rfl rfl) ?_
  refine OPS.val rfl rfl rfl (Ev.asB rfl) ?_
  refine OPS.nil ?_
  refine WP.ret ⟨_, rfl, ?_⟩
  exact ⟨rfl, H.below⟩
set_option maxHeartbeats 1000000 in
theorem truckCheck (n hd : Int) (A B C : Option Addr) (l : List Edg) (ts : List Truck) (ns : List Need) (ca cb cc : Nat) (w0 : World) (hz : EdgsAt w0 A l) (ht : RowsAt 4 truckCells w0 B ts) (hn : RowsAt 2 needCells w0 C ns) (hcc : ns.length ≤ cc) :
    Calls Try.prog 29 #[.agg #[I n, .slice A l.length ca, .slice B ts.length cb, .slice C ns.length cc, I hd]] w0 fun e w' => e = .returned (I (nightErr n l ts ns hd)) ∧ Below w0.heap.size w0 w' := by
  have H := SH.refl w0
  refine Calls.ofWP Try.func29 rfl Try.results29 Try.ntmps29 rfl ?_
  refine WP.seq ?_
  refine WP.region ?_
  refine OPS.box rfl rfl rfl rfl (cA rfl) H ?_
  clear H; intro g1 w H
  refine OPS.val rfl rfl rfl (Ev.asI rfl) ?_
  refine OPS.nil ?_
  refine WP.seq ?_
  refine WP.seq ?_
  refine WP.region ?_
  refine OPS.val rfl rfl rfl (Ev.fieldAddr (fld_run rfl) rfl) ?_
  refine OPS.val rfl rfl rfl ((by exact Ev.loadN [_, _] (agg_run rfl) (size_run rfl) rfl ⟨H.ldL 0 rfl _ rfl, H.ldL 0 rfl _ rfl, trivial⟩)) ?_
  refine OPS.call (d := some 12) rfl rfl rfl (EvC.func (fun_run rfl)) (roadCheck n A l ca w (hz.sh H)) ?_
  rintro _ w ⟨rfl, hb⟩
  refine ⟨_, rfl, ?_⟩
  replace H := H.toBelow hb; clear hb
  refine OPS.val rfl rfl rfl (Ev.asI rfl) ?_
  refine OPS.nil ?_
  refine WP.seq ?_
  refine WP.region ?_
  refine OPS.val rfl rfl rfl (Ev.mvI rfl) ?_
  refine OPS.val rfl rfl rfl (Ev.neq rfl rfl) ?_
  refine OPS.nil ?_
  refine WP.cond rfl (fun hc2 => ?_) (fun hc2 => ?_)
  · refine WP.seq ?_
    refine WP.region ?_
    refine OPS.val rfl rfl rfl (Ev.mvI rfl) ?_
    refine OPS.val rfl rfl rfl (Ev.asI rfl) ?_
    refine OPS.nil ?_
    refine WP.ret ⟨_, rfl, ?_⟩
    have h : roadErr n l ≠ 0 := by simpa using hc2
    exact ⟨by rw [nightErr, if_pos h]; rfl, H.below⟩
  have h0 : roadErr n l = 0 := by simpa using hc2
  refine WP.skip ?_
  refine WP.seq ?_
  refine WP.seq ?_
  refine WP.region ?_
  refine OPS.val rfl rfl rfl (Ev.fieldAddr (fld_run rfl) rfl) ?_
  refine OPS.val rfl rfl rfl (Ev.load1 (agg_run rfl) rfl (by exact H.ldL 0 rfl _ rfl)) ?_
  refine OPS.val rfl rfl rfl (Ev.len (el_run rfl) rfl) ?_
  refine OPS.val rfl rfl rfl (Ev.gtr rfl rfl) ?_
  refine OPS.val rfl rfl rfl (Ev.mvB rfl) ?_
  refine OPS.gval rfl rfl rfl rfl rfl (fun hg => Ev.fieldAddr (fld_run rfl) (by rfl)) ?_
  refine OPS.gval rfl rfl rfl rfl rfl (fun hg => Ev.load1 (agg_run rfl) (by exact gvE hg rfl) (by exact H.ldL 0 rfl _ rfl)) ?_
  refine OPS.gval rfl rfl rfl rfl rfl (fun hg => Ev.len (el_run rfl) (by exact gvE hg rfl)) ?_
  refine OPS.gval rfl rfl rfl rfl rfl (fun hg => Ev.gtr (by exact gvE hg rfl) (by rfl)) ?_
  refine OPS.val rfl rfl rfl ((by exact Ev.pickOr rfl rfl rfl)) ?_
  refine OPS.nil ?_
  refine WP.cond rfl (fun hc4 => ?_) (fun hc4 => ?_)
  · refine WP.seq ?_
    refine WP.region ?_
    refine OPS.val rfl rfl rfl (Ev.asI rfl) ?_
    refine OPS.nil ?_
    refine WP.ret ⟨_, rfl, ?_⟩
    exact ⟨by rw [nightErr, if_neg (by simp [h0]), if_pos (show fullB ts ns = true by simpa [fullB] using hc4)]; rfl, H.below⟩
  have hfu : fullB ts ns = false := by simpa [fullB] using hc4
  have hlt8 : ts.length ≤ 8 ∧ ns.length ≤ 16 := by simp at hc4; omega
  obtain ⟨m, rfl, hok⟩ := roadOk_of h0
  have hm2 := hok.n2
  have e0 : nightErr m l ts ns hd = if trucksErr m ts ≠ 0 then trucksErr m ts else if needsErr m ns ≠ 0 then needsErr m ns else if needTwice ns = true then 6 else if inB hd 0 3600 = true then 0 else 1 := by rw [nightErr, if_neg (by simp [h0]), if_neg (by simp [hfu])]
  refine WP.skip ?_
  refine WP.seq ?_
  refine WP.seq ?_
  refine WP.region ?_
  refine OPS.val rfl rfl rfl (Ev.fieldAddr (fld_run rfl) rfl) ?_
  refine OPS.val rfl rfl rfl (Ev.load1 (agg_run rfl) rfl (by exact H.ldL 0 rfl _ rfl)) ?_
  refine OPS.val rfl rfl rfl (Ev.len (el_run rfl) rfl) ?_
  refine OPS.val rfl rfl rfl (Ev.mvI rfl) ?_
  refine OPS.nil ?_
  refine WP.block ?_
  refine WP.loop [2, 5, 29, 30, 31, 32, 33, 34, 35, 36, 37, 38, 39, 40, 41, 42, 43, 44, 45, 46, 47, 48, 49, 50, 51, 52, 53, 54, 55, 56, 57, 58, 59, 60, 61, 62, 63, 64, 65, 66] (fun k e w' => ∃ j : Nat, j + k = ts.length ∧ e 29 = I j ∧ SH w0 [] w' [⟨g1, 28, [I m, .slice A l.length ca, .slice B ts.length cb, .slice C ns.length cc, I hd]⟩] ∧ ∀ i (hi : i < ts.length), i < j → truckBad m ts[i] = false ∧ truckRange ts[i] = false) (ts.length) (⟨0, by omega, rfl, H, fun i _ hi => absurd hi (by omega)⟩) ?_
  clear H
  rintro k u w ⟨j, hk, h29, H, hall⟩
  refine WP.know (t := 29) h29 ?_
  refine WP.seq ?_
  refine WP.region ?_
  refine OPS.val rfl rfl rfl (Ev.lss rfl rfl) ?_
  refine OPS.nil ?_
  refine WP.seq ?_
  refine WP.cond rfl (fun hc7 => ?_) (fun hc7 => ?_)
  · have hlt : j < ts.length := by simpa using hc7
    obtain ⟨b, o, rfl, hc⟩ := ht j hlt
    have hc' := cellsAt_sh H hc
    refine WP.skip ?_
    refine WP.seq ?_
    refine WP.block ?_
    refine WP.seq ?_
    refine WP.region ?_
    refine OPS.val rfl rfl rfl ((by exact Ev.indexAddr (el_run rfl) (size_run rfl) rfl rfl rfl (by omega))) ?_
    refine OPS.val rfl rfl rfl ((by (change Ev _ _ _ _ (Op.load 54 (Operand.tmp 31)) _; exact Ev.loadN (truckCells ts[j]) (agg_run rfl) (size_run rfl) rfl hc'))) ?_
    refine OPS.alloc rfl rfl rfl rfl (zero_run rfl) rfl H ?_
    clear H; intro g5 w H
    refine OPS.store 0 _ rfl rfl rfl (size_run rfl) rfl (cA rfl) rfl rfl H rfl (by simp) ?_
    clear H; intro w H; try simp only [List.set_cons_zero, List.set_cons_succ, putL, Nat.zero_add] at H
    refine OPS.nil ?_
    refine WP.seq ?_
    refine WP.seq ?_
    refine WP.region ?_
    refine OPS.val rfl rfl rfl (Ev.fieldAddr (fld_run rfl) rfl) ?_
    refine OPS.val rfl rfl rfl (Ev.load1 (agg_run rfl) rfl (by exact H.ldL 0 rfl _ rfl)) ?_
    refine OPS.val rfl rfl rfl (Ev.fieldAddr (fld_run rfl) rfl) ?_
    refine OPS.val rfl rfl rfl (Ev.fieldAddr (fld_run rfl) rfl) ?_
    refine OPS.val rfl rfl rfl (Ev.load1 (agg_run rfl) rfl (by exact H.ldL 1 rfl _ rfl)) ?_
    refine OPS.val rfl rfl rfl (Ev.sub rfl rfl (by unfold fits; omega)) ?_
    refine OPS.call (d := some 39) rfl rfl rfl (EvC.func (fun_run rfl)) (truckIn ts[j].depot 0 (m - 1) _) ?_
    rintro _ w ⟨rfl, hb⟩
    refine ⟨_, rfl, ?_⟩
    replace H := H.toBelow hb; clear hb
    refine OPS.val rfl rfl rfl (Ev.not rfl) ?_
    refine OPS.nil ?_
    refine WP.cond rfl (fun hc9 => ?_) (fun hc9 => ?_)
    · refine WP.seq ?_
      refine WP.region ?_
      refine OPS.val rfl rfl rfl (Ev.asI rfl) ?_
      refine OPS.nil ?_
      refine WP.ret ⟨_, rfl, ?_⟩
      have he : trucksErr m ts = 7 := by rw [trucksErr_drop (by omega) hall, List.drop_eq_getElem_cons hlt, trucksErr, if_pos (show truckBad m ts[j] = true from hc9)]
      exact ⟨by rw [e0, he]; rfl, H.below⟩
    refine WP.skip ?_
    refine WP.seq ?_
    refine WP.region ?_
    refine OPS.val rfl rfl rfl (Ev.fieldAddr (fld_run rfl) rfl) ?_
    refine OPS.val rfl rfl rfl (Ev.load1 (agg_run rfl) rfl (by exact H.ldL 0 rfl _ rfl)) ?_
    refine OPS.call (d := some 43) rfl rfl rfl (EvC.func (fun_run rfl)) (truckIn ts[j].cap 1 32 _) ?_
    rintro _ w ⟨rfl, hb⟩
    refine ⟨_, rfl, ?_⟩
    replace H := H.toBelow hb; clear hb
    refine OPS.val rfl rfl rfl (Ev.not rfl) ?_
    refine OPS.val rfl rfl rfl (Ev.mvB rfl) ?_
    refine OPS.gval rfl rfl rfl rfl rfl (fun hg => Ev.fieldAddr (fld_run rfl) (by rfl)) ?_
    refine OPS.gval rfl rfl rfl rfl rfl (fun hg => Ev.fieldAddr (fld_run rfl) (by exact gvE hg rfl)) ?_
    refine OPS.gval rfl rfl rfl rfl rfl (fun hg => Ev.load1 (agg_run rfl) (by exact gvE hg rfl) (by exact H.ldL 0 rfl _ rfl)) ?_
    refine OPS.gval rfl rfl rfl rfl rfl (fun hg => Ev.lss (by exact gvE hg rfl) (by rfl)) ?_
    refine OPS.val rfl rfl rfl ((by exact Ev.pickOr rfl rfl rfl)) ?_
    refine OPS.val rfl rfl rfl (Ev.mvB rfl) ?_
    refine OPS.gval rfl rfl rfl rfl rfl (fun hg => Ev.fieldAddr (fld_run rfl) (by rfl)) ?_
    refine OPS.gval rfl rfl rfl rfl rfl (fun hg => Ev.fieldAddr (fld_run rfl) (by exact gvE hg rfl)) ?_
    refine OPS.gval rfl rfl rfl rfl rfl (fun hg => Ev.load1 (agg_run rfl) (by exact gvE hg rfl) (by exact H.ldL 0 rfl _ rfl)) ?_
    refine OPS.gval rfl rfl rfl rfl rfl (fun hg => Ev.fieldAddr (fld_run rfl) (by rfl)) ?_
    refine OPS.gval rfl rfl rfl rfl rfl (fun hg => Ev.fieldAddr (fld_run rfl) (by exact gvE hg rfl)) ?_
    refine OPS.gval rfl rfl rfl rfl rfl (fun hg => Ev.load1 (agg_run rfl) (by exact gvE hg rfl) (by exact H.ldL 0 rfl _ rfl)) ?_
    refine OPS.gval rfl rfl rfl rfl rfl (fun hg => Ev.gtr (by exact gvE hg rfl) (by exact gvE hg rfl)) ?_
    refine OPS.val rfl rfl rfl ((by exact Ev.pickOr rfl rfl rfl)) ?_
    refine OPS.val rfl rfl rfl (Ev.mvB rfl) ?_
    refine OPS.gval rfl rfl rfl rfl rfl (fun hg => Ev.fieldAddr (fld_run rfl) (by rfl)) ?_
    refine OPS.gval rfl rfl rfl rfl rfl (fun hg => Ev.fieldAddr (fld_run rfl) (by exact gvE hg rfl)) ?_
    refine OPS.gval rfl rfl rfl rfl rfl (fun hg => Ev.load1 (agg_run rfl) (by exact gvE hg rfl) (by exact H.ldL 0 rfl _ rfl)) ?_
    refine OPS.gval rfl rfl rfl rfl rfl (fun hg => Ev.gtr (by exact gvE hg rfl) (by rfl)) ?_
    refine OPS.val rfl rfl rfl ((by exact Ev.pickOr rfl rfl rfl)) ?_
    refine OPS.nil ?_
    refine WP.cond rfl (fun hc11 => ?_) (fun hc11 => ?_)
    · refine WP.seq ?_
      refine WP.region ?_
      refine OPS.val rfl rfl rfl (Ev.asI rfl) ?_
      refine OPS.nil ?_
      refine WP.ret ⟨_, rfl, ?_⟩
      have he : trucksErr m ts = 1 := by rw [trucksErr_drop (by omega) hall, List.drop_eq_getElem_cons hlt, trucksErr, if_neg (by rw [show truckBad m ts[j] = false from hc9]; simp), if_pos (show truckRange ts[j] = true from hc11)]
      exact ⟨by rw [e0, he]; rfl, H.below⟩
    refine WP.skip ?_
    refine WP.region ?_
    refine OPS.val rfl rfl rfl (Ev.add rfl rfl (by unfold fits; omega)) ?_
    refine OPS.val rfl rfl rfl (Ev.mvI rfl) ?_
    refine OPS.nil ?_
    refine ⟨(by repeat (first | exact Agree.refl _ _ | exact Agree.mix _ _ _ | refine Agree.upd rfl ?_ | refine Agree.mix2 rfl ?_)), k - 1, by omega, j + 1, by omega, rfl, H.drop (by simp), fun i hi hij => ?_⟩
    rcases Nat.lt_succ_iff_lt_or_eq.1 hij with h | rfl
    · exact hall i hi h
    · exact ⟨hc9, hc11⟩
  have hj : j = ts.length := by simp at hc7; omega
  subst hj
  have ht0 : trucksErr m ts = 0 := by rw [trucksErr_drop (by omega) hall]; simp [trucksErr]
  clear hall
  refine WP.exit ?_
  refine XB.hit ?_
  refine WP.seq ?_
  refine WP.seq ?_
  refine WP.region ?_
  refine OPS.val rfl rfl rfl (Ev.fieldAddr (fld_run rfl) rfl) ?_
  refine OPS.val rfl rfl rfl (Ev.load1 (agg_run rfl) rfl (by exact H.ldL 0 rfl _ rfl)) ?_
  refine OPS.val rfl rfl rfl (Ev.len (el_run rfl) rfl) ?_
  refine OPS.val rfl rfl rfl (Ev.mvI rfl) ?_
  refine OPS.nil ?_
  refine WP.block ?_
  refine WP.loop [2, 7, 70, 71, 72, 73, 74, 75, 76, 77, 78, 79, 80, 81, 82, 83, 84, 85, 86, 87, 88, 89, 90, 91] (fun k e w' => ∃ j : Nat, j + k = ns.length ∧ e 70 = I j ∧ SH w0 [] w' [⟨g1, 28, [I m, .slice A l.length ca, .slice B ts.length cb, .slice C ns.length cc, I hd]⟩] ∧ ∀ i (hi : i < ns.length), i < j → needBad m ns[i] = false ∧ needRange ns[i] = false) (ns.length) (⟨0, by omega, rfl, H, fun i _ hi => absurd hi (by omega)⟩) ?_
  clear H
  rintro k u w ⟨j, hk, h70, H, hall⟩
  refine WP.know (t := 70) h70 ?_
  refine WP.seq ?_
  refine WP.region ?_
  refine OPS.val rfl rfl rfl (Ev.lss rfl rfl) ?_
  refine OPS.nil ?_
  refine WP.seq ?_
  refine WP.cond rfl (fun hc15 => ?_) (fun hc15 => ?_)
  · have hlt : j < ns.length := by simpa using hc15
    obtain ⟨b, o, rfl, hc⟩ := hn j hlt
    have hc' := cellsAt_sh H hc
    refine WP.skip ?_
    refine WP.seq ?_
    refine WP.block ?_
    refine WP.seq ?_
    refine WP.region ?_
    refine OPS.val rfl rfl rfl ((by exact Ev.indexAddr (el_run rfl) (size_run rfl) rfl rfl rfl (by omega))) ?_
    refine OPS.val rfl rfl rfl ((by (change Ev _ _ _ _ (Op.load 64 (Operand.tmp 72)) _; exact Ev.loadN (needCells ns[j]) (agg_run rfl) (size_run rfl) rfl hc'))) ?_
    refine OPS.alloc rfl rfl rfl rfl (zero_run rfl) rfl H ?_
    clear H; intro g7 w H
    refine OPS.store 0 _ rfl rfl rfl (size_run rfl) rfl (cA rfl) rfl rfl H rfl (by simp) ?_
    clear H; intro w H; try simp only [List.set_cons_zero, List.set_cons_succ, putL, Nat.zero_add] at H
    refine OPS.nil ?_
    refine WP.seq ?_
    refine WP.seq ?_
    refine WP.region ?_
    refine OPS.val rfl rfl rfl (Ev.fieldAddr (fld_run rfl) rfl) ?_
    refine OPS.val rfl rfl rfl (Ev.load1 (agg_run rfl) rfl (by exact H.ldL 0 rfl _ rfl)) ?_
    refine OPS.val rfl rfl rfl (Ev.fieldAddr (fld_run rfl) rfl) ?_
    refine OPS.val rfl rfl rfl (Ev.fieldAddr (fld_run rfl) rfl) ?_
    refine OPS.val rfl rfl rfl (Ev.load1 (agg_run rfl) rfl (by exact H.ldL 1 rfl _ rfl)) ?_
    refine OPS.val rfl rfl rfl (Ev.sub rfl rfl (by unfold fits; omega)) ?_
    refine OPS.call (d := some 80) rfl rfl rfl (EvC.func (fun_run rfl)) (truckIn ns[j].node 0 (m - 1) _) ?_
    rintro _ w ⟨rfl, hb⟩
    refine ⟨_, rfl, ?_⟩
    replace H := H.toBelow hb; clear hb
    refine OPS.val rfl rfl rfl (Ev.not rfl) ?_
    refine OPS.nil ?_
    refine WP.cond rfl (fun hc17 => ?_) (fun hc17 => ?_)
    · refine WP.seq ?_
      refine WP.region ?_
      refine OPS.val rfl rfl rfl (Ev.asI rfl) ?_
      refine OPS.nil ?_
      refine WP.ret ⟨_, rfl, ?_⟩
      have he : needsErr m ns = 7 := by rw [needsErr_drop (by omega) hall, List.drop_eq_getElem_cons hlt, needsErr, if_pos (show needBad m ns[j] = true from hc17)]
      exact ⟨by rw [e0, ht0, he]; rfl, H.below⟩
    refine WP.skip ?_
    refine WP.seq ?_
    refine WP.region ?_
    refine OPS.val rfl rfl rfl (Ev.fieldAddr (fld_run rfl) rfl) ?_
    refine OPS.val rfl rfl rfl (Ev.load1 (agg_run rfl) rfl (by exact H.ldL 0 rfl _ rfl)) ?_
    refine OPS.val rfl rfl rfl (Ev.eql rfl rfl) ?_
    refine OPS.val rfl rfl rfl (Ev.mvB rfl) ?_
    refine OPS.gval rfl rfl rfl rfl rfl (fun hg => Ev.fieldAddr (fld_run rfl) (by rfl)) ?_
    refine OPS.gval rfl rfl rfl rfl rfl (fun hg => Ev.load1 (agg_run rfl) (by exact gvE hg rfl) (by exact H.ldL 0 rfl _ rfl)) ?_
    refine OPS.gcall0 (f := 50) (truckIn ns[j].move (-32) 32 _) (fun _ _ h => h) rfl rfl rfl rfl rfl (fun hg => EvC.conv (EvC.func (fun_run rfl)) (l3 (by exact gvE hg rfl) (by rfl) (by rfl))) ?_
    intro w hbc; replace H := H.toBelow hbc
    refine OPS.gval rfl rfl rfl rfl rfl (fun hg => Ev.not (by exact gvE hg rfl)) ?_
    refine OPS.val rfl rfl rfl ((by exact Ev.pickOr rfl rfl rfl)) ?_
    refine OPS.nil ?_
    refine WP.cond rfl (fun hc19 => ?_) (fun hc19 => ?_)
    · refine WP.seq ?_
      refine WP.region ?_
      refine OPS.val rfl rfl rfl (Ev.asI rfl) ?_
      refine OPS.nil ?_
      refine WP.ret ⟨_, rfl, ?_⟩
      have he : needsErr m ns = 1 := by rw [needsErr_drop (by omega) hall, List.drop_eq_getElem_cons hlt, needsErr, if_neg (by rw [show needBad m ns[j] = false from hc17]; simp), if_pos (show needRange ns[j] = true from hc19)]
      exact ⟨by rw [e0, ht0, he]; rfl, H.below⟩
    refine WP.skip ?_
    refine WP.region ?_
    refine OPS.val rfl rfl rfl (Ev.add rfl rfl (by unfold fits; omega)) ?_
    refine OPS.val rfl rfl rfl (Ev.mvI rfl) ?_
    refine OPS.nil ?_
    refine ⟨(by repeat (first | exact Agree.refl _ _ | exact Agree.mix _ _ _ | refine Agree.upd rfl ?_ | refine Agree.mix2 rfl ?_)), k - 1, by omega, j + 1, by omega, rfl, H.drop (by simp), fun i hi hij => ?_⟩
    rcases Nat.lt_succ_iff_lt_or_eq.1 hij with h | rfl
    · exact hall i hi h
    · exact ⟨hc17, hc19⟩
  have hj : j = ns.length := by simp at hc15; omega
  subst hj
  have hn0 : needsErr m ns = 0 := by rw [needsErr_drop (by omega) hall]; simp [needsErr]
  clear hall
  refine WP.exit ?_
  refine XB.hit ?_
  refine WP.seq ?_
  refine WP.seq ?_
  refine WP.region ?_
  refine OPS.val rfl rfl rfl (Ev.fieldAddr (fld_run rfl) rfl) ?_
  refine OPS.val rfl rfl rfl (Ev.load1 (agg_run rfl) rfl (by exact H.ldL 0 rfl _ rfl)) ?_
  refine OPS.val rfl rfl rfl (Ev.len (el_run rfl) rfl) ?_
  refine OPS.val rfl rfl rfl (Ev.mvI rfl) ?_
  refine OPS.nil ?_
  refine WP.block ?_
  refine WP.loop [2, 8, 9, 95, 96, 97, 98, 99, 100, 101, 102, 103, 104, 105, 106] (fun k e w' => ∃ j : Nat, j + k = ns.length ∧ e 95 = I j ∧ SH w0 [] w' [⟨g1, 28, [I m, .slice A l.length ca, .slice B ts.length cb, .slice C ns.length cc, I hd]⟩] ∧ ((ns.map (·.node)).take j).Nodup) (ns.length) (⟨0, by omega, rfl, H, by simp⟩) ?_
  clear H
  rintro k u w ⟨j, hk, h95, H, hall⟩
  refine WP.know (t := 95) h95 ?_
  refine WP.seq ?_
  refine WP.region ?_
  refine OPS.val rfl rfl rfl (Ev.lss rfl rfl) ?_
  refine OPS.nil ?_
  refine WP.seq ?_
  refine WP.cond rfl (fun hc23 => ?_) (fun hc23 => ?_)
  · have hlt : j < ns.length := by simpa using hc23
    obtain ⟨b, o, rfl, hc⟩ := hn j hlt
    have hc' := cellsAt_sh H hc
    have hnt := nodup_take_succ (l := ns.map (·.node)) (show j < (ns.map (·.node)).length by simpa using hlt)
    refine WP.skip ?_
    refine WP.seq ?_
    refine WP.block ?_
    refine WP.seq ?_
    refine WP.region ?_
    refine OPS.val rfl rfl rfl (Ev.mvI rfl) ?_
    refine OPS.val rfl rfl rfl ((by exact Ev.indexAddr (el_run rfl) (size_run rfl) rfl rfl rfl (by omega))) ?_
    refine OPS.val rfl rfl rfl ((by (change Ev _ _ _ _ (Op.load 64 (Operand.tmp 98)) _; exact Ev.loadN (needCells ns[j]) (agg_run rfl) (size_run rfl) rfl hc'))) ?_
    refine OPS.alloc rfl rfl rfl rfl (zero_run rfl) rfl H ?_
    clear H; intro g9 w H
    refine OPS.val rfl rfl rfl (Ev.asI rfl) ?_
    refine OPS.store 0 _ rfl rfl rfl (size_run rfl) rfl (cA rfl) rfl rfl H rfl (by simp) ?_
    clear H; intro w H; try simp only [List.set_cons_zero, List.set_cons_succ, putL, Nat.zero_add] at H
    refine OPS.nil ?_
    refine WP.seq ?_
    refine WP.region ?_
    refine OPS.val rfl rfl rfl (Ev.fieldAddr (fld_run rfl) rfl) ?_
    refine OPS.val rfl rfl rfl (Ev.load1 (agg_run rfl) rfl (by exact H.ldL 1 rfl _ rfl)) ?_
    refine OPS.val rfl rfl rfl (Ev.mvI rfl) ?_
    refine OPS.val rfl rfl rfl (Ev.sliceTo (j := j) (el_run rfl) ⟨2, size_run rfl⟩ rfl rfl rfl (by omega)) ?_
    refine OPS.val rfl rfl rfl (Ev.makeFunc) ?_
    refine OPS.call (d := some 105) rfl rfl rfl (EvC.func (fun_run rfl)) (slContainsFuncNT _ ns j cc _ [.pointer (some ⟨g9, 0, none⟩)] (fun y => decide (y.node = ns[j].node)) w (hn.sh H) (by omega) (by unfold maxLen; omega) rfl (fun x _ w2 hb => truckCheckF x g9 ns[j].node ns[j].move w2 (cell_below hb (H.ldL 0 rfl 0 rfl)))) ?_
    rintro _ w ⟨rfl, hb⟩
    refine ⟨_, rfl, ?_⟩
    replace H := H.toBelow hb; clear hb
    refine OPS.nil ?_
    refine WP.cond rfl (fun hc25 => ?_) (fun hc25 => ?_)
    · refine WP.seq ?_
      refine WP.region ?_
      refine OPS.val rfl rfl rfl (Ev.asI rfl) ?_
      refine OPS.nil ?_
      refine WP.ret ⟨_, rfl, ?_⟩
      obtain ⟨y, hy, he⟩ := List.any_eq_true.1 hc25
      have hm : ns[j].node ∈ (ns.map (·.node)).take j := by rw [← List.map_take]; exact List.mem_map.2 ⟨y, hy, by simpa using he⟩
      have : needTwice ns = true := by
        unfold needTwice twiceB
        rw [Bool.not_eq_true', decide_eq_false_iff_not]
        exact fun h => (hnt.1 (nodup_of_take h)).2 (by simpa using hm)
      exact ⟨by rw [e0, ht0, hn0, this]; rfl, H.below⟩
    refine WP.skip ?_
    refine WP.region ?_
    refine OPS.val rfl rfl rfl (Ev.add rfl rfl (by unfold fits; omega)) ?_
    refine OPS.val rfl rfl rfl (Ev.mvI rfl) ?_
    refine OPS.nil ?_
    have hm : ns[j].node ∉ (ns.map (·.node)).take j := by
      rw [← List.map_take]
      intro h
      obtain ⟨y, hy, he⟩ := List.mem_map.1 h
      have := List.any_eq_false.1 hc25 y hy
      simp [he] at this
    exact ⟨(by repeat (first | exact Agree.refl _ _ | exact Agree.mix _ _ _ | refine Agree.upd rfl ?_ | refine Agree.mix2 rfl ?_)), k - 1, by omega, j + 1, by omega, rfl, H.drop (by simp), hnt.2 ⟨hall, by simpa using hm⟩⟩
  have hj : j = ns.length := by simp at hc23; omega
  have hnd : needTwice ns = false := by
    rw [hj, show ns.length = (ns.map (·.node)).length by simp, List.take_length] at hall
    simp only [needTwice, twiceB, hall, decide_true]; rfl
  have e1 : nightErr m l ts ns hd = if inB hd 0 3600 = true then 0 else 1 := by rw [e0, ht0, hn0, hnd]; simp
  refine WP.exit ?_
  refine XB.hit ?_
  refine WP.seq ?_
  refine WP.seq ?_
  refine WP.region ?_
  refine OPS.val rfl rfl rfl (Ev.fieldAddr (fld_run rfl) rfl) ?_
  refine OPS.val rfl rfl rfl (Ev.load1 (agg_run rfl) rfl (by exact H.ldL 0 rfl _ rfl)) ?_
  refine OPS.call (d := some 109) rfl rfl rfl (EvC.func (fun_run rfl)) (truckIn hd 0 3600 _) ?_
  rintro _ w ⟨rfl, hb⟩
  refine ⟨_, rfl, ?_⟩
  replace H := H.toBelow hb; clear hb
  refine OPS.val rfl rfl rfl (Ev.not rfl) ?_
  refine OPS.nil ?_
  refine WP.cond rfl (fun hc28 => ?_) (fun hc28 => ?_)
  · refine WP.seq ?_
    refine WP.region ?_
    refine OPS.val rfl rfl rfl (Ev.asI rfl) ?_
    refine OPS.nil ?_
    refine WP.ret ⟨_, rfl, ?_⟩
    exact ⟨by rw [e1, if_neg (by simpa using hc28)]; rfl, H.below⟩
  refine WP.skip ?_
  refine WP.seq ?_
  refine WP.region ?_
  refine OPS.val rfl rfl rfl (Ev.asI rfl) ?_
  refine OPS.nil ?_
  refine WP.ret ⟨_, rfl, ?_⟩
  exact ⟨by rw [e1, if_pos (by simpa using hc28)]; rfl, H.below⟩
end Go.Proofs.Ytfddebpeiilohaa
