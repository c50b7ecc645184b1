/-
 Walks: Check of a night.
-/
import Derived.Test.YtgcokllbophkkaaGreatRM3
import Derived.Test.YtgcokllbophkkaaGreatNest
set_option linter.all false
set_option maxHeartbeats 4000000
namespace Go.Proofs.YtgcokllbophkkaaGreat
open Go Go.W Go.RowKit
structure Truck where
 depot : Int
 cap : Int
 from_ : Int
 to_ : Int
instance : Inhabited Truck := ⟨⟨0, 0, 0, 0⟩⟩
def truckCells (t : Truck) : List Value := [I t.depot, I t.cap, I t.from_, I t.to_]
def truckBad (n : Int) (t : Truck) : Bool := !inB t.depot 0 (n - 1)
def truckRange (t : Truck) : Bool := !inB t.cap 1 32 || decide (t.from_ < 0) || decide (t.to_ < t.from_) || decide (86400 < t.to_)
def trucksErr (n : Int) : List Truck → Int
 | [] => 0
 | t :: l => if truckBad n t = true then 7 else if truckRange t = true then 1 else trucksErr n l
def needBad (n : Int) (x : Need) : Bool := !inB x.node 0 (n - 1)
def needRange (x : Need) : Bool := decide (x.move = 0) || !inB x.move (-32) 32
def needsErr (n : Int) : List Need → Int
 | [] => 0
 | t :: l => if needBad n t = true then 7 else if needRange t = true then 1 else needsErr n l
theorem trucksErr_drop {n : Int} {l : List Truck} : ∀ {j : Nat}, j ≤ l.length → (∀ i (hi : i < l.length), i < j → truckBad n l[i] = false ∧ truckRange l[i] = false) → trucksErr n l = trucksErr n (l.drop j)
 | 0, _, _ => by simp
 | j + 1, hj, h => by
  rw [trucksErr_drop (j := j) (by omega) (fun i hi hij => h i hi (by omega)), List.drop_eq_getElem_cons (show j < l.length by omega), trucksErr]
  obtain ⟨h1, h2⟩ := h j (by omega) (by omega)
  rw [h1, h2]; simp
theorem needsErr_drop {n : Int} {l : List Need} : ∀ {j : Nat}, j ≤ l.length → (∀ i (hi : i < l.length), i < j → needBad n l[i] = false ∧ needRange l[i] = false) → needsErr n l = needsErr n (l.drop j)
 | 0, _, _ => by simp
 | j + 1, hj, h => by
  rw [needsErr_drop (j := j) (by omega) (fun i hi hij => h i hi (by omega)), List.drop_eq_getElem_cons (show j < l.length by omega), needsErr]
  obtain ⟨h1, h2⟩ := h j (by omega) (by omega)
  rw [h1, h2]; simp
theorem trucksErr_ok {n : Int} : ∀ {l : List Truck}, trucksErr n l = 0 → ∀ t ∈ l, truckBad n t = false ∧ truckRange t = false
 | [], _, _, h => by cases h
 | a :: l, h, t, ht => by
  rw [trucksErr] at h
  split at h
  ·cases h
  ·rename_i h1
   split at h
   ·cases h
   ·rename_i h2
    rcases List.mem_cons.1 ht with rfl | ht
    ·exact ⟨by simpa using h1, by simpa using h2⟩
    ·exact trucksErr_ok h t ht
theorem needsErr_ok {n : Int} : ∀ {l : List Need}, needsErr n l = 0 → ∀ t ∈ l, needBad n t = false ∧ needRange t = false
 | [], _, _, h => by cases h
 | a :: l, h, t, ht => by
  rw [needsErr] at h
  split at h
  ·cases h
  ·rename_i h1
   split at h
   ·cases h
   ·rename_i h2
    rcases List.mem_cons.1 ht with rfl | ht
    ·exact ⟨by simpa using h1, by simpa using h2⟩
    ·exact needsErr_ok h t ht
def needTwice (ns : List Need) : Bool := twiceB (ns.map (·.node))
def fullB (ts : List Truck) (ns : List Need) : Bool := decide ((8 : Int) < ts.length) || decide ((16 : Int) < ns.length)
def nightErr (n : Int) (l : List Edg) (ts : List Truck) (ns : List Need) (h : Int) : Int :=
 if roadErr n l ≠ 0 then roadErr n l else if fullB ts ns = true then 8 else if trucksErr n ts ≠ 0 then trucksErr n ts else if needsErr n ns ≠ 0 then needsErr n ns else if needTwice ns = true then 6 else if inB h 0 3600 = true then 0 else 1
theorem truckCheckF (y : Need) (g : Nat) (nd mv : Int) (w0 : World) (hc : w0.cell? ⟨g, 0, none⟩ = some (I nd)) :
  Calls Tryz.prog 47 #[.agg #[I y.node, I y.move], .pointer (some ⟨g, 0, none⟩)] w0 fun e w' => e = .returned (.bool (decide (y.node = nd))) ∧ Below w0.heap.size w0 w' := by
 have H := SH.refl w0
 refine Calls.ofWP Tryz.func47 rfl Tryz.results47 Tryz.ntmps47 rfl <| Y.qr <| Y.bx (cA rfl) H ?_
 clear H; intro g2 w H
 refine Y.v (Ev.asB rfl) <| Y.z <| Y.qr <| Y.fa rfl rfl <| Y.j H 0 rfl rfl rfl <| Y.fa rfl rfl <| Y.v (Y.c (H.ld0 (by assumption)) rfl) ?_
 refine Y.v (Ev.eql rfl rfl) <| Y.v (Ev.asB rfl) <| Y.z ?_
 refine WP.ret ⟨_, rfl, ?_⟩
 exact ⟨rfl, H.below⟩
theorem truckCheck (n hd : Int) (A B C : Option Addr) (l : List Edg) (ts : List Truck) (ns : List Need) (ca cb cc : Nat) (w0 : World) (hz : EdgsAt w0 A l) (ht : RowsAt 4 truckCells w0 B ts) (hn : RowsAt 2 needCells w0 C ns) (hcc : ns.length ≤ cc) :
  Calls Tryz.prog 25 #[.agg #[I n, .slice A l.length ca, .slice B ts.length cb, .slice C ns.length cc, I hd]] w0 fun e w' => e = .returned (I (nightErr n l ts ns hd)) ∧ Below w0.heap.size w0 w' := by
 have H := SH.refl w0
 refine Calls.ofWP Tryz.func25 rfl Tryz.results25 Tryz.ntmps25 rfl <| Y.qr <| Y.bx (cA rfl) H ?_
 clear H; intro g1 w H
 refine Y.b rfl <| Y.z <| Y.q <| Y.qr <| Y.fa rfl rfl <| Y.v (Ev.loadN [_, _] (agg_run rfl) (size_run rfl) rfl ⟨H.ldL 0 rfl _ rfl, H.ldL 0 rfl _ rfl, trivial⟩) <| OPS.call (d := some 12) rfl rfl rfl (EvC.func (fun_run rfl)) (roadCheck n A l ca w (hz.sh H)) ?_
 rintro _ w ⟨rfl, hb⟩
 refine ⟨_, rfl, ?_⟩
 replace H := H.toBelow hb; clear hb
 refine Y.b rfl <| Y.z <| Y.qr <| Y.a rfl <| Y.v (Ev.neq rfl rfl) <| Y.z ?_
 refine WP.cond rfl (fun hc2 => ?_) (fun hc2 => ?_)
 ·refine Y.qr <| Y.a rfl <| Y.b rfl <| Y.z ?_
  refine WP.ret ⟨_, rfl, ?_⟩
  have h : roadErr n l ≠ 0 := by simpa using hc2
  exact ⟨by rw [nightErr, if_pos h]; rfl, H.below⟩
 have h0 : roadErr n l = 0 := by simpa using hc2
 refine Y.k <| Y.q <| Y.qr <| Y.fa rfl rfl <| Y.j H 0 rfl rfl rfl <| Y.v (Y.n rfl) <| Y.v (Ev.gtr rfl rfl) <| Y.v (Ev.mvB rfl) <| Y.g rfl rfl (fun hg => Y.f rfl rfl) <| Y.y rfl rfl H 0 (fun hg => gvE hg rfl) rfl rfl <| Y.g rfl rfl (fun hg => Ev.len (el_run rfl) (gvE hg rfl)) <| Y.g rfl rfl (fun hg => Ev.gtr (gvE hg rfl) rfl) <| Y.v (Ev.pickOr rfl rfl rfl) <| Y.z ?_
 refine WP.cond rfl (fun hc4 => ?_) (fun hc4 => ?_)
 ·refine Y.qr <| Y.b rfl <| Y.z ?_
  refine WP.ret ⟨_, rfl, ?_⟩
  exact ⟨by rw [nightErr, if_neg (by simp [h0]), if_pos (show fullB ts ns = true by simpa [fullB] using hc4)]; rfl, H.below⟩
 have hfu : fullB ts ns = false := by simpa [fullB] using hc4
 have hlt8 : ts.length ≤ 8 ∧ ns.length ≤ 16 := by simp at hc4; omega
 obtain ⟨m, rfl, hok⟩ := roadOk_of h0
 have hm2 := hok.n2
 have e0 : nightErr m l ts ns hd = if trucksErr m ts ≠ 0 then trucksErr m ts else if needsErr m ns ≠ 0 then needsErr m ns else if needTwice ns = true then 6 else if inB hd 0 3600 = true then 0 else 1 := by rw [nightErr, if_neg (by simp [h0]), if_neg (by simp [hfu])]
 refine Y.k <| Y.q <| Y.qr <| Y.fa rfl rfl <| Y.j H 0 rfl rfl rfl <| Y.v (Y.n rfl) <| Y.a rfl <| Y.z <| WP.block <| WP.loop [2, 5, 29, 30, 31, 32, 33, 34, 35, 36, 37, 38, 39, 40, 41, 42, 43, 44, 45, 46, 47, 48, 49, 50, 51, 52, 53, 54, 55, 56, 57, 58, 59, 60, 61, 62, 63, 64, 65, 66] (fun k e w' => ∃ j : Nat, j + k = ts.length ∧ e 29 = I j ∧ SH w0 [] w' [⟨g1, 28, [I m, .slice A l.length ca, .slice B ts.length cb, .slice C ns.length cc, I hd]⟩] ∧ ∀ i (hi : i < ts.length), i < j → truckBad m ts[i] = false ∧ truckRange ts[i] = false) (ts.length) (⟨0, by omega, rfl, H, fun i _ hi => absurd hi (by omega)⟩) ?_
 clear H
 rintro k u w ⟨j, hk, h29, H, hall⟩
 refine WP.know (t := 29) h29 <| Y.qr <| Y.v (Ev.lss rfl rfl) <| Y.z <| Y.q ?_
 refine WP.cond rfl (fun hc7 => ?_) (fun hc7 => ?_)
 ·have hlt : j < ts.length := by simpa using hc7
  obtain ⟨b, o, rfl, hc⟩ := ht j hlt
  have hc' := cellsAt_sh H hc
  refine Y.k <| Y.q <| WP.block <| Y.qr <| Y.v (Y.X rfl rfl rfl rfl rfl) <| Y.v (by (change Ev _ _ _ _ (Op.load 81 (Operand.tmp 31)) _; exact Ev.loadN (truckCells ts[j]) (agg_run rfl) (size_run rfl) rfl hc')) <| Y.al H rfl rfl ?_
  clear H; intro g5 w H
  refine Y.ss 0 H rfl (cA rfl) rfl ?_
  clear H; intro w H
  refine Y.z <| Y.q <| Y.qr <| Y.fa rfl rfl <| Y.j H 0 rfl rfl rfl <| Y.fa rfl rfl <| Y.fa rfl rfl <| Y.j H 1 rfl rfl rfl <| Y.v (Y.s rfl rfl) <| OPS.call (d := some 39) rfl rfl rfl (EvC.func (fun_run rfl)) (truckIn ts[j].depot 0 (m - 1) _) ?_
  rintro _ w ⟨rfl, hb⟩
  refine ⟨_, rfl, ?_⟩
  replace H := H.toBelow hb; clear hb
  refine Y.v (Ev.not rfl) <| Y.z ?_
  refine WP.cond rfl (fun hc9 => ?_) (fun hc9 => ?_)
  ·refine Y.qr <| Y.b rfl <| Y.z ?_
   refine WP.ret ⟨_, rfl, ?_⟩
   have he : trucksErr m ts = 7 := by rw [trucksErr_drop (by omega) hall, List.drop_eq_getElem_cons hlt, trucksErr, if_pos (show truckBad m ts[j] = true from hc9)]
   exact ⟨by rw [e0, he]; rfl, H.below⟩
  refine Y.k <| Y.qr <| Y.fa rfl rfl <| Y.j H 0 rfl rfl rfl <| OPS.call (d := some 43) rfl rfl rfl (EvC.func (fun_run rfl)) (truckIn ts[j].cap 1 32 _) ?_
  rintro _ w ⟨rfl, hb⟩
  refine ⟨_, rfl, ?_⟩
  replace H := H.toBelow hb; clear hb
  refine Y.v (Ev.not rfl) <| Y.v (Ev.mvB rfl) <| Y.g rfl rfl (fun hg => Y.f rfl rfl) <| Y.g rfl rfl (fun hg => Ev.fieldAddr (fld_run rfl) (gvE hg rfl)) <| Y.y rfl rfl H 0 (fun hg => gvE hg rfl) rfl rfl <| Y.g rfl rfl (fun hg => Ev.lss (gvE hg rfl) rfl) <| Y.v (Ev.pickOr rfl rfl rfl) <| Y.v (Ev.mvB rfl) <| Y.g rfl rfl (fun hg => Y.f rfl rfl) <| Y.g rfl rfl (fun hg => Ev.fieldAddr (fld_run rfl) (gvE hg rfl)) <| Y.y rfl rfl H 0 (fun hg => gvE hg rfl) rfl rfl <| Y.g rfl rfl (fun hg => Y.f rfl rfl) <| Y.g rfl rfl (fun hg => Ev.fieldAddr (fld_run rfl) (gvE hg rfl)) <| Y.y rfl rfl H 0 (fun hg => gvE hg rfl) rfl rfl <| Y.g rfl rfl (fun hg => Ev.gtr (gvE hg rfl) (gvE hg rfl)) <| Y.v (Ev.pickOr rfl rfl rfl) <| Y.v (Ev.mvB rfl) <| Y.g rfl rfl (fun hg => Y.f rfl rfl) <| Y.g rfl rfl (fun hg => Ev.fieldAddr (fld_run rfl) (gvE hg rfl)) <| Y.y rfl rfl H 0 (fun hg => gvE hg rfl) rfl rfl <| Y.g rfl rfl (fun hg => Ev.gtr (gvE hg rfl) rfl) <| Y.v (Ev.pickOr rfl rfl rfl) <| Y.z ?_
  refine WP.cond rfl (fun hc11 => ?_) (fun hc11 => ?_)
  ·refine Y.qr <| Y.b rfl <| Y.z ?_
   refine WP.ret ⟨_, rfl, ?_⟩
   have he : trucksErr m ts = 1 := by rw [trucksErr_drop (by omega) hall, List.drop_eq_getElem_cons hlt, trucksErr, if_neg (by rw [show truckBad m ts[j] = false from hc9]; simp), if_pos (show truckRange ts[j] = true from hc11)]
   exact ⟨by rw [e0, he]; rfl, H.below⟩
  refine Y.k <| Y.r <| Y.v (Y.p rfl rfl) <| Y.a rfl <| Y.z ?_
  refine ⟨Y.ag, k - 1, by omega, j + 1, by omega, rfl, H.drop (by simp), fun i hi hij => ?_⟩
  rcases Nat.lt_succ_iff_lt_or_eq.1 hij with h | rfl
  ·exact hall i hi h
  ·exact ⟨hc9, hc11⟩
 have hj : j = ts.length := by simp at hc7; omega
 subst hj
 have ht0 : trucksErr m ts = 0 := by rw [trucksErr_drop (by omega) hall]; simp [trucksErr]
 clear hall
 refine WP.exit <| XB.hit <| Y.q <| Y.qr <| Y.fa rfl rfl <| Y.j H 0 rfl rfl rfl <| Y.v (Y.n rfl) <| Y.a rfl <| Y.z <| WP.block <| WP.loop [2, 7, 70, 71, 72, 73, 74, 75, 76, 77, 78, 79, 80, 81, 82, 83, 84, 85, 86, 87, 88, 89, 90, 91] (fun k e w' => ∃ j : Nat, j + k = ns.length ∧ e 70 = I j ∧ SH w0 [] w' [⟨g1, 28, [I m, .slice A l.length ca, .slice B ts.length cb, .slice C ns.length cc, I hd]⟩] ∧ ∀ i (hi : i < ns.length), i < j → needBad m ns[i] = false ∧ needRange ns[i] = false) (ns.length) (⟨0, by omega, rfl, H, fun i _ hi => absurd hi (by omega)⟩) ?_
 clear H
 rintro k u w ⟨j, hk, h70, H, hall⟩
 refine WP.know (t := 70) h70 <| Y.qr <| Y.v (Ev.lss rfl rfl) <| Y.z <| Y.q ?_
 refine WP.cond rfl (fun hc15 => ?_) (fun hc15 => ?_)
 ·have hlt : j < ns.length := by simpa using hc15
  obtain ⟨b, o, rfl, hc⟩ := hn j hlt
  have hc' := cellsAt_sh H hc
  refine Y.k <| Y.q <| WP.block <| Y.qr <| Y.v (Y.X rfl rfl rfl rfl rfl) <| Y.v (by (change Ev _ _ _ _ (Op.load 68 (Operand.tmp 72)) _; exact Ev.loadN (needCells ns[j]) (agg_run rfl) (size_run rfl) rfl hc')) <| Y.al H rfl rfl ?_
  clear H; intro g7 w H
  refine Y.ss 0 H rfl (cA rfl) rfl ?_
  clear H; intro w H
  refine Y.z <| Y.q <| Y.qr <| Y.fa rfl rfl <| Y.j H 0 rfl rfl rfl <| Y.fa rfl rfl <| Y.fa rfl rfl <| Y.j H 1 rfl rfl rfl <| Y.v (Y.s rfl rfl) <| OPS.call (d := some 80) rfl rfl rfl (EvC.func (fun_run rfl)) (truckIn ns[j].node 0 (m - 1) _) ?_
  rintro _ w ⟨rfl, hb⟩
  refine ⟨_, rfl, ?_⟩
  replace H := H.toBelow hb; clear hb
  refine Y.v (Ev.not rfl) <| Y.z ?_
  refine WP.cond rfl (fun hc17 => ?_) (fun hc17 => ?_)
  ·refine Y.qr <| Y.b rfl <| Y.z ?_
   refine WP.ret ⟨_, rfl, ?_⟩
   have he : needsErr m ns = 7 := by rw [needsErr_drop (by omega) hall, List.drop_eq_getElem_cons hlt, needsErr, if_pos (show needBad m ns[j] = true from hc17)]
   exact ⟨by rw [e0, ht0, he]; rfl, H.below⟩
  refine Y.k <| Y.qr <| Y.fa rfl rfl <| Y.j H 0 rfl rfl rfl <| Y.v (Ev.eql rfl rfl) <| Y.v (Ev.mvB rfl) <| Y.g rfl rfl (fun hg => Y.f rfl rfl) <| Y.y rfl rfl H 0 (fun hg => gvE hg rfl) rfl rfl <| OPS.gcall0 (f := 45) (truckIn ns[j].move (-32) 32 _) (fun _ _ h => h) rfl rfl rfl rfl rfl (fun hg => EvC.conv (EvC.func (fun_run rfl)) (l3 (gvE hg rfl) rfl rfl)) ?_
  intro w hbc; replace H := H.toBelow hbc
  refine Y.g rfl rfl (fun hg => Ev.not (gvE hg rfl)) <| Y.v (Ev.pickOr rfl rfl rfl) <| Y.z ?_
  refine WP.cond rfl (fun hc19 => ?_) (fun hc19 => ?_)
  ·refine Y.qr <| Y.b rfl <| Y.z ?_
   refine WP.ret ⟨_, rfl, ?_⟩
   have he : needsErr m ns = 1 := by rw [needsErr_drop (by omega) hall, List.drop_eq_getElem_cons hlt, needsErr, if_neg (by rw [show needBad m ns[j] = false from hc17]; simp), if_pos (show needRange ns[j] = true from hc19)]
   exact ⟨by rw [e0, ht0, he]; rfl, H.below⟩
  refine Y.k <| Y.r <| Y.v (Y.p rfl rfl) <| Y.a rfl <| Y.z ?_
  refine ⟨Y.ag, k - 1, by omega, j + 1, by omega, rfl, H.drop (by simp), fun i hi hij => ?_⟩
  rcases Nat.lt_succ_iff_lt_or_eq.1 hij with h | rfl
  ·exact hall i hi h
  ·exact ⟨hc17, hc19⟩
 have hj : j = ns.length := by simp at hc15; omega
 subst hj
 have hn0 : needsErr m ns = 0 := by rw [needsErr_drop (by omega) hall]; simp [needsErr]
 clear hall
 refine WP.exit <| XB.hit <| Y.q <| Y.qr <| Y.fa rfl rfl <| Y.j H 0 rfl rfl rfl <| Y.v (Y.n rfl) <| Y.a rfl <| Y.z <| WP.block <| WP.loop [2, 8, 9, 95, 96, 97, 98, 99, 100, 101, 102, 103, 104, 105, 106] (fun k e w' => ∃ j : Nat, j + k = ns.length ∧ e 95 = I j ∧ SH w0 [] w' [⟨g1, 28, [I m, .slice A l.length ca, .slice B ts.length cb, .slice C ns.length cc, I hd]⟩] ∧ ((ns.map (·.node)).take j).Nodup) (ns.length) (⟨0, by omega, rfl, H, by simp⟩) ?_
 clear H
 rintro k u w ⟨j, hk, h95, H, hall⟩
 refine WP.know (t := 95) h95 <| Y.qr <| Y.v (Ev.lss rfl rfl) <| Y.z <| Y.q ?_
 refine WP.cond rfl (fun hc23 => ?_) (fun hc23 => ?_)
 ·have hlt : j < ns.length := by simpa using hc23
  obtain ⟨b, o, rfl, hc⟩ := hn j hlt
  have hc' := cellsAt_sh H hc
  have hnt := nodup_take_succ (l := ns.map (·.node)) (show j < (ns.map (·.node)).length by simpa using hlt)
  refine Y.k <| Y.q <| WP.block <| Y.qr <| Y.a rfl <| Y.v (Y.X rfl rfl rfl rfl rfl) <| Y.v (by (change Ev _ _ _ _ (Op.load 68 (Operand.tmp 98)) _; exact Ev.loadN (needCells ns[j]) (agg_run rfl) (size_run rfl) rfl hc')) <| Y.al H rfl rfl ?_
  clear H; intro g9 w H
  refine Y.b rfl <| Y.ss 0 H rfl (cA rfl) rfl ?_
  clear H; intro w H
  refine Y.z <| Y.qr <| Y.fa rfl rfl <| Y.j H 1 rfl rfl rfl <| Y.a rfl <| Y.v (Ev.sliceTo (j := j) (el_run rfl) ⟨2, size_run rfl⟩ rfl rfl rfl (by omega)) <| Y.v (Ev.makeFunc) <| OPS.call (d := some 105) rfl rfl rfl (EvC.func (fun_run rfl)) (slContainsFuncNT _ ns j cc _ [.pointer (some ⟨g9, 0, none⟩)] (fun y => decide (y.node = ns[j].node)) w (hn.sh H) (by omega) (by unfold maxLen; omega) rfl (fun x _ w2 hb => truckCheckF x g9 ns[j].node ns[j].move w2 (cell_below hb (H.ldL 0 rfl 0 rfl)))) ?_
  rintro _ w ⟨rfl, hb⟩
  refine ⟨_, rfl, ?_⟩
  replace H := H.toBelow hb; clear hb
  refine Y.z ?_
  refine WP.cond rfl (fun hc25 => ?_) (fun hc25 => ?_)
  ·refine Y.qr <| Y.b rfl <| Y.z ?_
   refine WP.ret ⟨_, rfl, ?_⟩
   obtain ⟨y, hy, he⟩ := List.any_eq_true.1 hc25
   have hm : ns[j].node ∈ (ns.map (·.node)).take j := by rw [← List.map_take]; exact List.mem_map.2 ⟨y, hy, by simpa using he⟩
   have : needTwice ns = true := by
    unfold needTwice twiceB
    rw [Bool.not_eq_true', decide_eq_false_iff_not]
    exact fun h => (hnt.1 (nodup_of_take h)).2 (by simpa using hm)
   exact ⟨by rw [e0, ht0, hn0, this]; rfl, H.below⟩
  refine Y.k <| Y.r <| Y.v (Y.p rfl rfl) <| Y.a rfl <| Y.z ?_
  have hm : ns[j].node ∉ (ns.map (·.node)).take j := by
   rw [← List.map_take]
   intro h
   obtain ⟨y, hy, he⟩ := List.mem_map.1 h
   have := List.any_eq_false.1 hc25 y hy
   simp [he] at this
  exact ⟨Y.ag, k - 1, by omega, j + 1, by omega, rfl, H.drop (by simp), hnt.2 ⟨hall, by simpa using hm⟩⟩
 have hj : j = ns.length := by simp at hc23; omega
 have hnd : needTwice ns = false := by
  rw [hj, show ns.length = (ns.map (·.node)).length by simp, List.take_length] at hall
  simp only [needTwice, twiceB, hall, decide_true]; rfl
 have e1 : nightErr m l ts ns hd = if inB hd 0 3600 = true then 0 else 1 := by rw [e0, ht0, hn0, hnd]; simp
 refine WP.exit <| XB.hit <| Y.q <| Y.qr <| Y.fa rfl rfl <| Y.j H 0 rfl rfl rfl <| OPS.call (d := some 109) rfl rfl rfl (EvC.func (fun_run rfl)) (truckIn hd 0 3600 _) ?_
 rintro _ w ⟨rfl, hb⟩
 refine ⟨_, rfl, ?_⟩
 replace H := H.toBelow hb; clear hb
 refine Y.v (Ev.not rfl) <| Y.z ?_
 refine WP.cond rfl (fun hc28 => ?_) (fun hc28 => ?_)
 ·refine Y.qr <| Y.b rfl <| Y.z ?_
  refine WP.ret ⟨_, rfl, ?_⟩
  exact ⟨by rw [e1, if_neg (by simpa using hc28)]; rfl, H.below⟩
 refine Y.k <| Y.qr <| Y.b rfl <| Y.z ?_
 refine WP.ret ⟨_, rfl, ?_⟩
 exact ⟨by rw [e1, if_pos (by simpa using hc28)]; rfl, H.below⟩
end Go.Proofs.YtgcokllbophkkaaGreat
namespace Go.Proofs.YtgcokllbophkkaaGreat
open Go Go.W Go.RowKit
theorem rowsS {α : Type} {sz : Nat} {enc : α → List Value} {w0 w : World} {S : List Nat} {L : List Blk} {A : Option Addr} {l : List α} (h : RowsAt sz enc w0 A l) (hS : l ≠ [] → Off A S) (H : SH w0 S w L) : RowsAt sz enc w A l := by
 cases l with
 | nil => exact RowsAt.nil
 | cons a l => exact h.shS (hS (by simp)) H
theorem roadT_bd {n s v : Nat} {l : List Edg} (hok : RoadOk n l) (hs : s < n) (hv : v < n) : -1 ≤ roadT n l s v ∧ roadT n l s v ≤ 64000 := by
 obtain ⟨K, D, hR⟩ := rd_exists hok hs
 rw [roadT_eq hok hR hv]
 cases hk : K v with
 | true => have := hR.small hok hv hk; simp; omega
 | false => simp
theorem roadErr_ok {n : Nat} {l : List Edg} (hok : RoadOk n l) : roadErr n l = 0 := by
 have h1 := hok.n1
 have h2 := hok.n2
 have h3 := hok.len
 rw [roadErr, if_neg (by simp; omega), if_neg (by omega), edgsErr_drop (j := l.length) (Nat.le_refl _) (fun i hi _ => ?_)]
 ·simp [edgsErr]
 ·have h4 := hok.nodes l[i] (List.getElem_mem hi)
  have h5 := hok.secs l[i] (List.getElem_mem hi)
  refine ⟨?_, ?_⟩
  ·simp [edgBad, isNode]; omega
  ·simp [edgRange]; omega
theorem timesOf_ok {n s : Nat} {l : List Edg} (hok : RoadOk n l) (hs : s < n) : timesErr n l s = 0 ∧ timesOf n l s = timesL n l s := by
 have h : timesErr n l s = 0 := by
  have h1 := roadErr_ok hok
  unfold timesErr isNode
  simp [h1, hs]
 exact ⟨h, by rw [timesOf, if_pos h]; simp⟩
structure TS where
 at_ : Nat
 now : Int
 load : Int
 driven : Int
def tourCells (t : Truck) (N : List Value) (s : TS) : List Value := truckCells t ++ N ++ [I s.at_, I s.now, I s.load, I s.driven]
def driveE (d : Int) : Int := if d < 0 then 15 else 0
def driveS (d : Int) (v : Nat) (s : TS) : TS := ⟨v, s.now + d, s.load, s.driven + d⟩
def nightL (m : Nat) (A B C : Option Addr) (ll tl nl ca cb cc : Nat) (hd : Int) : List Value := [I m, .slice A ll ca, .slice B tl cb, .slice C nl cc, I hd]
theorem tourDrive (g m v : Nat) (A B C : Option Addr) (l : List Edg) (tl nl ca cb cc : Nat) (hd : Int) (t : Truck) (s : TS) (w0 : World) (S : List Nat) (hok : RoadOk m l) (hv : v < m) (hs : s.at_ < m) (hb : -1000000000000 ≤ s.now ∧ s.now ≤ 1000000000000 ∧ -1000000000000 ≤ s.driven ∧ s.driven ≤ 1000000000000)
  (hz : EdgsAt w0 A l) (hA : l ≠ [] → Off A S) (H0 : SH w0 S w0 [⟨g, 83, tourCells t (nightL m A B C l.length tl nl ca cb cc hd) s⟩]) :
  Calls Tryz.prog 97 #[.pointer (some ⟨g, 0, none⟩), I v] w0 fun e w' => e = .returned (I (driveE (roadT m l s.at_ v))) ∧ (0 ≤ roadT m l s.at_ v → SH w0 S w' [⟨g, 83, tourCells t (nightL m A B C l.length tl nl ca cb cc hd) (driveS (roadT m l s.at_ v) v s)⟩]) ∧ ∃ L, SH w0 S w' L := by
 have H := H0
 have hbd := roadT_bd hok hs hv
 obtain ⟨hte, htl⟩ := timesOf_ok hok hs
 have htn := timesL_length m l s.at_
 unfold tourCells truckCells nightL at H
 simp only [List.cons_append, List.nil_append] at H
 refine Calls.ofWP Tryz.func97 rfl Tryz.results97 Tryz.ntmps97 rfl <| Y.qr <| Y.b rfl <| Y.z <| Y.q ?_
 refine WP.rheldC [5, 6, 7, 8, 9, 10, 11, 12, 13, 14, 15, 16, 17, 18, 19] (fun u w' => ∃ (TA : Option Addr) (Lc : List Blk), u 5 = .slice TA (timesOf m l s.at_).length (timesOf m l s.at_).length ∧ u 6 = I (timesErr m l s.at_) ∧ OwnL 3 I TA (timesOf m l s.at_) Lc ∧ SH w0 S w' ([⟨g, 83, tourCells t (nightL m A B C l.length tl nl ca cb cc hd) s⟩] ++ Lc)) mixed H ?_ ?_
 ·clear H; intro w hbw1 H
  refine Y.t 0 H rfl rfl (fun w H => Ev.mvP rfl) <| Y.t 1 H rfl rfl (fun w H => Ev.nilCheckP rfl) <| Y.t 2 H rfl rfl (fun w H => Y.f rfl rfl) <| Y.t 3 H rfl rfl (fun w H => Y.f rfl rfl) <| Y.t 4 H rfl rfl (fun w H => Ev.loadN [_, _] (agg_run rfl) (size_run rfl) rfl ⟨H.ldL 0 rfl _ rfl, H.ldL 0 rfl _ rfl, trivial⟩) <| Y.t 5 H rfl rfl (fun w H => Ev.mvP rfl) <| Y.t 6 H rfl rfl (fun w H => Ev.nilCheckP rfl) <| Y.t 7 H rfl rfl (fun w H => Y.f rfl rfl) <| Y.t 8 H rfl rfl (fun w H => Y.l H 0 rfl rfl rfl) <| Y.A1 9 rfl rfl <| OPS.call (d := some 17) rfl rfl rfl (EvC.func (fun_run rfl)) (roadTimes m s.at_ A l ca _ (rowsS hz hA H)) ?_
  rintro _ w ⟨TA, Lc, rfl, hOL, Hc⟩
  refine ⟨_, rfl, ?_⟩
  have Hf : SH w0 S w ([_] ++ Lc) := SH.call (L1 := [_]) (Lv := []) H Hc
  clear H Hc
  have H := Hf.drop (List.sublist_append_left _ _)
  refine Y.z <| ⟨(H), ?_⟩
  refine Y.t 10 H rfl rfl (fun w H => Ev.mvT rfl) <| Y.t 11 H rfl rfl (fun w H => Ev.extract rfl rfl) <| Y.t 12 H rfl rfl (fun w H => Ev.extract rfl rfl) <| Y.t 13 H rfl rfl (fun w H => Ev.asS rfl) <| Y.t 14 H rfl rfl (fun w H => Ev.asI rfl) <| Y.dn ?_
  exact ⟨Y.ag, TA, Lc, rfl, rfl, hOL, Hf⟩
 clear H
 rintro u w ⟨TA, Lc, h5, h6, hOL, H⟩
 refine WP.know (t := 5) h5 (WP.know (t := 6) h6 ?_)
 unfold tourCells truckCells nightL at H
 simp only [List.cons_append, List.nil_append] at H
 rw [htl] at hOL
 have htv : (timesL m l s.at_)[v]'(by omega) = roadT m l s.at_ v := timesL_at (by omega)
 have hvl : v < (timesOf m l s.at_).length := by rw [htl]; omega
 have hrd : ∀ (w : World) (B : Blk), SH w0 S w ([B] ++ Lc) → OnesAt I w TA (timesL m l s.at_) := fun w B H => hOL.rd H (fun b hb => List.mem_append_right _ hb)
 obtain ⟨bt, ot, rfl, _⟩ := hrd w _ H v (by omega)
 have hx0 := (hrd w _ H).atK (show v < (timesL m l s.at_).length by omega)
 rw [htv] at hx0
 refine Y.q <| WP.block <| Y.qr <| Y.a rfl <| Y.v (Ev.neq rfl rfl) <| Y.v (Ev.asB rfl) <| Y.z ?_
 refine WP.cond rfl (fun hc2 => ?_) (fun hc2 => ?_)
 ·refine Y.qr <| Y.a rfl <| Y.b rfl <| Y.z ?_
  refine WP.ret ⟨_, rfl, ?_⟩
  exact absurd hc2 (by rw [hte]; simp)
 refine Y.qr <| Y.v (Ev.mvS rfl) <| Y.a rfl <| Y.v (Y.x rfl rfl rfl rfl) <| Y.v (Y.c (by assumption) rfl) ?_
 refine Y.v (Ev.lss rfl rfl) <| Y.v (Ev.asB rfl) <| Y.z ?_
 refine WP.cond rfl (fun hc4 => ?_) (fun hc4 => ?_)
 ·refine Y.qr <| Y.b rfl <| Y.z ?_
  refine WP.ret ⟨_, rfl, ?_⟩
  have hd0 : roadT m l s.at_ v < 0 := by simpa using hc4
  exact ⟨by rw [driveE, if_pos hd0]; rfl, fun h => absurd h (by omega), _, H⟩
 have hd0 : ¬ roadT m l s.at_ v < 0 := by simpa using hc4
 refine Y.k <| Y.qr <| Y.v (Ev.mvP rfl) <| Y.a rfl <| Y.v (Ev.nilCheckP rfl) <| Y.fa rfl rfl <| Y.ss 0 H rfl (cI rfl) rfl ?_
 clear H; intro w H
 refine Y.z <| Y.q <| WP.rtail 11 mixed (by kernel_rfl) H ?_
 clear H; intro w hbw7 H
 refine Y.v (Ev.mvP rfl) <| Y.v (Ev.nilCheckP rfl) <| Y.fa rfl rfl <| Y.j H 0 rfl rfl rfl <| Y.v (Ev.mvS rfl) <| Y.a rfl <| Y.v (Y.x rfl rfl rfl rfl) ?_
 have hxm := (hrd w _ H).atK (show v < (timesL m l s.at_).length by omega)
 rw [htv] at hxm
 refine Y.v (Y.c (by assumption) rfl) ?_
 refine Y.v (Y.p rfl rfl) <| Y.v (Ev.nilCheckP rfl) <| Y.fa rfl rfl <| OPS.nil_s <| Y.ss 0 H rfl (cI rfl) rfl ?_
 clear H; intro w H
 refine Y.z <| Y.q <| WP.rtail 11 mixed (by kernel_rfl) H ?_
 clear H; intro w hbw8 H
 refine Y.v (Ev.mvP rfl) <| Y.v (Ev.nilCheckP rfl) <| Y.fa rfl rfl <| Y.j H 0 rfl rfl rfl <| Y.v (Ev.mvS rfl) <| Y.a rfl <| Y.v (Y.x rfl rfl rfl rfl) ?_
 have hxm := (hrd w _ H).atK (show v < (timesL m l s.at_).length by omega)
 rw [htv] at hxm
 refine Y.v (Y.c (by assumption) rfl) ?_
 refine Y.v (Y.p rfl rfl) <| Y.v (Ev.nilCheckP rfl) <| Y.fa rfl rfl <| OPS.nil_s <| Y.ss 0 H rfl (cI rfl) rfl ?_
 clear H; intro w H
 refine Y.z <| Y.qr <| Y.b rfl <| Y.z ?_
 refine WP.ret ⟨_, rfl, ?_⟩
 exact ⟨by rw [driveE, if_neg hd0]; rfl, fun _ => H.drop (L' := [_]) (List.Sublist.cons_cons _ (List.nil_sublist _)), _, H⟩
end Go.Proofs.YtgcokllbophkkaaGreat
namespace Go.Proofs.YtgcokllbophkkaaGreat
open Go Go.W Go.RowKit
structure Vis where
 need : Int
 arrive : Int
 leave : Int
 load : Int
instance : Inhabited Vis := ⟨⟨0, 0, 0, 0⟩⟩
def visCells (v : Vis) : List Value := [I v.need, I v.arrive, I v.leave, I v.load]
def absI (z : Int) : Int := if z < -z then -z else z
def visitE (d cap : Int) (x : Need) (s : TS) : Int := if d < 0 then 15 else if inB (s.load + x.move) 0 cap = true then 0 else 24
def visitV (d hd : Int) (i : Int) (x : Need) (s : TS) : Vis := ⟨i, s.now + d, s.now + d + absI x.move * hd, s.load + x.move⟩
def visitT (d hd : Int) (x : Need) (s : TS) : TS := ⟨x.node.toNat, s.now + d + absI x.move * hd, s.load + x.move, s.driven + d⟩
theorem tourVisit (g m i : Nat) (A B C : Option Addr) (l : List Edg) (ns : List Need) (tl ca cb cc : Nat) (hd : Int) (t : Truck) (s : TS) (w0 : World) (S : List Nat) (hok : RoadOk m l) (hs : s.at_ < m) (hb : -100000000000 ≤ s.now ∧ s.now ≤ 100000000000 ∧ -100000000000 ≤ s.driven ∧ s.driven ≤ 100000000000 ∧ -100000 ≤ s.load ∧ s.load ≤ 100000)
  (hi : i < ns.length) (hx : 0 ≤ ns[i].node ∧ ns[i].node < m ∧ -32 ≤ ns[i].move ∧ ns[i].move ≤ 32) (hh : 0 ≤ hd ∧ hd ≤ 3600)
  (hz : EdgsAt w0 A l) (hA : l ≠ [] → Off A [g]) (hn : RowsAt 2 needCells w0 C ns) (hC : ns ≠ [] → Off C S) (H0 : SH w0 S w0 [⟨g, 83, tourCells t (nightL m A B C l.length tl ns.length ca cb cc hd) s⟩]) (hgS : S = [g]) :
  Calls Tryz.prog 75 #[.pointer (some ⟨g, 0, none⟩), I i] w0 fun e w' => e = .returned (.tuple #[.agg (visCells (if visitE (roadT m l s.at_ ns[i].node.toNat) t.cap ns[i] s = 0 then visitV (roadT m l s.at_ ns[i].node.toNat) hd i ns[i] s else default)).toArray, I (visitE (roadT m l s.at_ ns[i].node.toNat) t.cap ns[i] s)]) ∧
   (visitE (roadT m l s.at_ ns[i].node.toNat) t.cap ns[i] s = 0 → SH w0 S w' [⟨g, 83, tourCells t (nightL m A B C l.length tl ns.length ca cb cc hd) (visitT (roadT m l s.at_ ns[i].node.toNat) hd ns[i] s)⟩]) ∧ ∃ L, SH w0 S w' L := by
 have H := H0
 obtain ⟨v, hv⟩ := Int.eq_ofNat_of_zero_le hx.1
 have hvm : v < m := by omega
 have hvT : ns[i].node.toNat = v := by omega
 rw [hvT]
 have hbd := roadT_bd hok hs hvm
 generalize hD : roadT m l s.at_ v = d at *
 have hxa : 0 ≤ absI ns[i].move ∧ absI ns[i].move ≤ 32 := by unfold absI; split <;> omega
 have hmul : 0 ≤ absI ns[i].move * hd ∧ absI ns[i].move * hd ≤ 115200 := by
  refine ⟨Int.mul_nonneg hxa.1 hh.1, ?_⟩
  calc absI ns[i].move * hd ≤ 32 * hd := Int.mul_le_mul_of_nonneg_right hxa.2 hh.1
   _ ≤ 115200 := by omega
 have hmul2 : 0 ≤ (if ns[i].move < -ns[i].move then -ns[i].move else ns[i].move) * hd ∧ (if ns[i].move < -ns[i].move then -ns[i].move else ns[i].move) * hd ≤ 115200 := hmul
 obtain ⟨bn, on, rfl, hc⟩ := hn i hi
 have hnb : bn ∉ S := hC (by intro h; subst h; simp at hi) bn on rfl
 have hcd : needCells ns[i] = [I v, I ns[i].move] := by unfold needCells; rw [hv]
 unfold tourCells truckCells nightL at H
 simp only [List.cons_append, List.nil_append] at H
 refine Calls.ofWPc Tryz.func75 rfl Tryz.results75 Tryz.ntmps75 rfl <| Y.qr <| Y.al H rfl rfl ?_
 clear H; intro g4 w H
 refine Y.b rfl <| Y.z <| Y.qr <| Y.v (Ev.mvP rfl) <| Y.v (Ev.nilCheckP rfl) <| Y.fa rfl rfl <| Y.fa rfl rfl <| Y.j H 1 rfl rfl rfl <| Y.a rfl <| Y.v (Y.X rfl rfl rfl rfl rfl) ?_
 have hc' := cellsAt_shS H hnb hc
 rw [hcd] at hc'
 refine Y.v (by (change Ev _ _ _ _ (Op.load 68 (Operand.tmp 15)) _; exact Ev.loadN [I v, I ns[i].move] (agg_run rfl) (size_run rfl) rfl hc')) <| Y.al H rfl rfl ?_
 clear H; intro g6 w H
 refine Y.st 0 H rfl (cA rfl) rfl ?_
 clear H; intro w H
 simp only [List.set_cons_zero, List.set_cons_succ, putL, Nat.zero_add] at H
 refine Y.z <| Y.q <| Y.qr <| Y.v (Ev.mvP rfl) <| Y.fa rfl rfl <| Y.j H 0 rfl rfl rfl <| OPS.call (d := some 20) rfl rfl rfl (EvC.func (fun_run rfl)) (tourDrive g m v A B (some ⟨bn, on, none⟩) l tl ns.length ca cb cc hd t s w [g] hok hvm hs (by omega) (rowsS hz (by rw [hgS]; exact hA) H) hA (H.restart (Lv := [⟨g, 83, tourCells t (nightL m A B (some ⟨bn, on, none⟩) l.length tl ns.length ca cb cc hd) s⟩]) (((List.Sublist.refl _).cons _).cons _))) ?_
 rintro _ w ⟨rfl, hdr, Lx, Hx⟩
 refine ⟨_, rfl, ?_⟩
 rw [hD] at hdr
 have Hg : 0 ≤ d → SH w0 S w _ := fun h => SH.call (L1 := [_, _]) (Lv := [⟨g, 83, tourCells t (nightL m A B (some ⟨bn, on, none⟩) l.length tl ns.length ca cb cc hd) s⟩]) H (hdr h)
 replace H := SH.call (L1 := [_, _]) (Lv := [⟨g, 83, tourCells t (nightL m A B (some ⟨bn, on, none⟩) l.length tl ns.length ca cb cc hd) s⟩]) H Hx
 clear hdr Hx
 rw [hD]
 refine Y.b rfl <| Y.z <| Y.qr <| Y.a rfl <| Y.v (Ev.neq rfl rfl) <| Y.z ?_
 refine WP.cond rfl (fun hc3 => ?_) (fun hc3 => ?_)
 ·have hdn : d < 0 := by
   rcases Int.lt_or_le d 0 with h | h
   ·exact h
   ·rw [driveE, if_neg (by omega)] at hc3; simp at hc3
  rw [driveE, if_pos hdn]
  clear Hg
  refine Y.qr <| Y.v (Ev.build (bld_127_ (e := fun _ => .int .i64 0))) <| Y.a rfl <| Y.ss 1 H rfl (cA rfl) rfl ?_
  clear H; intro w H
  refine Y.b rfl <| Y.z ?_
  refine WP.ret ⟨[_, _], ⟨(by exact resCellA 1 H rfl (agg_run rfl) (size_run rfl) (by rfl) rfl), rfl, trivial⟩, ?_⟩
  have he : visitE d t.cap ns[i] s = 15 := by rw [visitE, if_pos hdn]
  rw [he]
  exact ⟨by rw [if_neg (by decide)]; rfl, fun h => absurd h (by decide), _, H⟩
 have hdp : 0 ≤ d := by
  rcases Int.lt_or_le d 0 with h | h
  ·rw [driveE, if_pos h] at hc3; simp at hc3
  ·exact h
 replace H := Hg hdp
 clear Hg
 unfold tourCells truckCells nightL driveS at H
 simp only [List.cons_append, List.nil_append] at H
 refine Y.k <| Y.q <| Y.q <| WP.rquiet mixed (by kernel_rfl) H ?_
 clear H; intro w hbw5 H
 refine Y.v (Ev.mvP rfl) <| Y.v (Ev.nilCheckP rfl) <| Y.fa rfl rfl <| Y.j H 2 rfl rfl rfl <| Y.fa rfl rfl <| Y.j H 0 rfl rfl rfl <| Y.v (Y.p rfl rfl) <| Y.v (Ev.mvP rfl) <| Y.v (Ev.nilCheckP rfl) <| Y.fa rfl rfl <| Y.fa rfl rfl <| Y.j H 2 rfl rfl rfl <| OPS.callq rfl rfl rfl (EvC.func (fun_run rfl)) (fun w2 hb2 => truckIn _ _ _ _) ?_
 refine Y.v (Ev.not rfl) <| OPS.nilq H ?_
 clear H; intro w hbx5 H
 refine WP.cond rfl (fun hc5 => ?_) (fun hc5 => ?_)
 ·refine Y.qr <| Y.v (Ev.build (bld_127_ (e := fun _ => .int .i64 0))) <| Y.ss 1 H rfl (cA rfl) rfl ?_
  clear H; intro w H
  refine Y.b rfl <| Y.z ?_
  refine WP.ret ⟨[_, _], ⟨(by exact resCellA 1 H rfl (agg_run rfl) (size_run rfl) (by rfl) rfl), rfl, trivial⟩, ?_⟩
  have he : visitE d t.cap ns[i] s = 24 := by rw [visitE, if_neg (by omega), if_neg (by simpa using hc5)]
  rw [he]
  exact ⟨by rw [if_neg (by decide)]; rfl, fun h => absurd h (by decide), _, H⟩
 have hok5 : inB (s.load + ns[i].move) 0 t.cap = true := by simpa using hc5
 have he : visitE d t.cap ns[i] s = 0 := by rw [visitE, if_neg (by omega), if_pos hok5]
 rw [he]
 refine Y.k <| Y.qr <| Y.a rfl <| Y.v (Ev.mvP rfl) <| Y.v (Ev.nilCheckP rfl) <| Y.fa rfl rfl <| Y.j H 2 rfl rfl rfl <| Y.v (Ev.build (bld_127_0_1 rfl rfl)) <| Y.al H rfl rfl ?_
 clear H; intro g8 w H
 refine Y.ss 0 H rfl (cA rfl) rfl ?_
 clear H; intro w H
 refine Y.z <| Y.q <| WP.rtail 9 mixed (by kernel_rfl) H ?_
 clear H; intro w hbw8 H
 refine Y.v (Ev.mvP rfl) <| Y.v (Ev.nilCheckP rfl) <| Y.fa rfl rfl <| Y.j H 3 rfl rfl rfl <| Y.fa rfl rfl <| Y.j H 1 rfl rfl rfl <| Y.v (Y.p rfl rfl) <| Y.v (Ev.nilCheckP rfl) <| Y.fa rfl rfl <| OPS.nil_s <| Y.ss 3 H rfl (cI rfl) rfl ?_
 clear H; intro w H
 refine Y.z <| Y.q <| WP.rtail 19 mixed (by kernel_rfl) H ?_
 clear H; intro w hbw9 H
 refine Y.v (Ev.mvP rfl) <| Y.v (Ev.nilCheckP rfl) <| Y.fa rfl rfl <| Y.j H 3 rfl rfl rfl <| Y.fa rfl rfl <| Y.j H 1 rfl rfl rfl <| Y.fa rfl rfl <| Y.j H 1 rfl rfl rfl <| Y.v (Ev.neg rfl (by unfold fits; omega)) <| Y.v (Ev.max rfl rfl) <| Y.v (Ev.mvP rfl) <| Y.v (Ev.nilCheckP rfl) <| Y.fa rfl rfl <| Y.fa rfl rfl <| Y.j H 3 rfl rfl rfl <| Y.v (Ev.mul rfl rfl (by unfold fits; omega)) <| Y.v (Y.p rfl rfl) <| Y.v (Ev.nilCheckP rfl) <| Y.fa rfl rfl <| OPS.nil_s <| Y.ss 3 H rfl (cI rfl) rfl ?_
 clear H; intro w H
 refine Y.z <| Y.q ?_
 have Hf := H
 replace H := H.drop (L' := [_]) ((((List.Sublist.refl _).cons _).cons _).cons _)
 refine WP.rheldC [74, 75, 76, 77, 78, 79, 80, 81, 82, 83] (fun _ w' => SH w0 S w' [⟨g8, 127, visCells (visitV d hd i ns[i] s)⟩, ⟨g6, 68, [I v, I ns[i].move]⟩, ⟨g4, 127, [I 0, I 0, I 0, I 0]⟩, ⟨g, 83, tourCells t (nightL m A B (some ⟨bn, on, none⟩) l.length tl ns.length ca cb cc hd) (visitT d hd ns[i] s)⟩]) mixed H ?_ ?_
 ·clear H; intro w hbw10 H
  refine Y.t 0 H rfl rfl (fun w H => Ev.mvP rfl) <| Y.t 1 H rfl rfl (fun w H => Ev.nilCheckP rfl) <| Y.t 2 H rfl rfl (fun w H => Y.f rfl rfl) <| Y.t 3 H rfl rfl (fun w H => Y.l H 0 rfl rfl rfl) <| Y.t 4 H rfl rfl (fun w H => Ev.mvP rfl) <| Y.t 5 H rfl rfl (fun w H => Ev.nilCheckP rfl) <| Y.t 6 H rfl rfl (fun w H => Y.f rfl rfl) <| Y.t 7 H rfl rfl (fun w H => Y.l H 0 rfl rfl rfl) <| Y.t 8 H rfl rfl (fun w H => Y.f rfl rfl) <| Y.A1 9 rfl rfl ?_
  try replace Hf := Hf.toBelow hbw10
  refine Y.st 0 Hf rfl (cI rfl) rfl ?_
  clear H Hf; intro w Hf
  simp only [List.set_cons_zero, List.set_cons_succ, putL, Nat.zero_add] at Hf
  have H := Hf.drop (L' := [_]) ((((List.Sublist.refl _).cons _).cons _).cons _)
  refine Y.z <| ⟨(H), ?_⟩
  refine Y.t 10 H rfl rfl (fun w H => Y.f rfl rfl) <| Y.A1 11 rfl rfl ?_
  try replace Hf := Hf.toBelow hbw10
  refine Y.st 0 Hf rfl (cI rfl) rfl ?_
  clear H Hf; intro w Hf
  simp only [List.set_cons_zero, List.set_cons_succ, putL, Nat.zero_add] at Hf
  have H := Hf.drop (L' := [_]) ((((List.Sublist.refl _).cons _).cons _).cons _)
  refine Y.z <| ⟨(H), ?_⟩
  refine Y.dn ?_
  exact ⟨Y.ag, (by unfold visitT; rw [hvT]; exact Hf)⟩
 clear H
 rintro u w H
 refine Y.qr <| Y.v (Y.o H 0 rfl rfl) <| Y.ss 2 H rfl (cA rfl) rfl ?_
 clear H; intro w H
 refine Y.b rfl <| Y.z ?_
 refine WP.ret ⟨[_, _], ⟨(by exact resCellA 2 H rfl (agg_run rfl) (size_run rfl) (by rfl) rfl), rfl, trivial⟩, ?_⟩
 exact ⟨rfl, fun _ => H.drop (L' := [_]) ((((List.Sublist.refl _).cons _).cons _).cons _), _, H⟩
def homeE (d hd : Int) (t : Truck) (s : TS) : Int := if d < 0 then 15 else if t.to_ < s.now + d + s.load * hd then 25 else 0
def homeT (d hd : Int) (t : Truck) (s : TS) : TS := ⟨t.depot.toNat, s.now + d + s.load * hd, s.load, s.driven + d⟩
theorem tourHome (g m : Nat) (A B C : Option Addr) (l : List Edg) (tl nl ca cb cc : Nat) (hd : Int) (t : Truck) (s : TS) (w0 : World) (hok : RoadOk m l) (hs : s.at_ < m) (hb : -100000000000 ≤ s.now ∧ s.now ≤ 100000000000 ∧ -100000000000 ≤ s.driven ∧ s.driven ≤ 100000000000 ∧ -100000 ≤ s.load ∧ s.load ≤ 100000)
  (hx : 0 ≤ t.depot ∧ t.depot < m) (hh : 0 ≤ hd ∧ hd ≤ 3600)
  (hz : EdgsAt w0 A l) (hA : l ≠ [] → Off A [g]) (H0 : SH w0 [g] w0 [⟨g, 83, tourCells t (nightL m A B C l.length tl nl ca cb cc hd) s⟩]) :
  Calls Tryz.prog 76 #[.pointer (some ⟨g, 0, none⟩)] w0 fun e w' => e = .returned (I (homeE (roadT m l s.at_ t.depot.toNat) hd t s)) ∧
   (homeE (roadT m l s.at_ t.depot.toNat) hd t s = 0 → SH w0 [g] w' [⟨g, 83, tourCells t (nightL m A B C l.length tl nl ca cb cc hd) (homeT (roadT m l s.at_ t.depot.toNat) hd t s)⟩]) ∧ ∃ L, SH w0 [g] w' L := by
 have H := H0
 obtain ⟨v, hv⟩ := Int.eq_ofNat_of_zero_le hx.1
 have hvm : v < m := by omega
 have hvT : t.depot.toNat = v := by omega
 rw [hvT]
 have hbd := roadT_bd hok hs hvm
 generalize hD : roadT m l s.at_ v = d at *
 have hmul : -360000000 ≤ s.load * hd ∧ s.load * hd ≤ 360000000 := by
  have h1 : s.load * hd ≤ 100000 * hd := Int.mul_le_mul_of_nonneg_right hb.2.2.2.2.2 hh.1
  have h2 : -100000 * hd ≤ s.load * hd := Int.mul_le_mul_of_nonneg_right hb.2.2.2.2.1 hh.1
  omega
 unfold tourCells truckCells nightL at H
 simp only [List.cons_append, List.nil_append] at H
 rw [hv] at H
 refine Calls.ofWP Tryz.func76 rfl Tryz.results76 Tryz.ntmps76 rfl <| Y.qr <| Y.b rfl <| Y.z <| Y.q <| Y.qr <| Y.v (Ev.mvP rfl) <| Y.v (Ev.mvP rfl) <| Y.v (Ev.nilCheckP rfl) <| Y.fa rfl rfl <| Y.fa rfl rfl <| Y.j H 0 rfl rfl rfl <| OPS.call (d := some 10) rfl rfl rfl (EvC.func (fun_run rfl)) (tourDrive g m v A B C l tl nl ca cb cc hd t s w0 [g] hok hvm hs (by omega) hz hA H0) ?_
 rintro _ w ⟨rfl, Hg, Lx, Hx⟩
 refine ⟨_, rfl, ?_⟩
 rw [hD] at Hg
 replace H := Hx
 clear Hx
 rw [hD]
 refine Y.b rfl <| Y.z <| Y.qr <| Y.a rfl <| Y.v (Ev.neq rfl rfl) <| Y.z ?_
 refine WP.cond rfl (fun hc2 => ?_) (fun hc2 => ?_)
 ·have hdn : d < 0 := by
   rcases Int.lt_or_le d 0 with h | h
   ·exact h
   ·rw [driveE, if_neg (by omega)] at hc2; simp at hc2
  rw [driveE, if_pos hdn]
  clear Hg
  refine Y.qr <| Y.a rfl <| Y.b rfl <| Y.z ?_
  refine WP.ret ⟨_, rfl, ?_⟩
  have he : homeE d hd t s = 15 := by rw [homeE, if_pos hdn]
  rw [he]
  exact ⟨rfl, fun h => absurd h (by decide), _, H⟩
 have hdp : 0 ≤ d := by
  rcases Int.lt_or_le d 0 with h | h
  ·rw [driveE, if_pos h] at hc2; simp at hc2
  ·exact h
 replace H := Hg hdp
 clear Hg
 unfold tourCells truckCells nightL driveS at H
 simp only [List.cons_append, List.nil_append] at H
 refine Y.k <| Y.q <| WP.rtail 17 mixed (by kernel_rfl) H ?_
 clear H; intro w hbw4 H
 refine Y.v (Ev.mvP rfl) <| Y.v (Ev.nilCheckP rfl) <| Y.fa rfl rfl <| Y.j H 0 rfl rfl rfl <| Y.v (Ev.mvP rfl) <| Y.v (Ev.nilCheckP rfl) <| Y.fa rfl rfl <| Y.j H 0 rfl rfl rfl <| Y.v (Ev.mvP rfl) <| Y.v (Ev.nilCheckP rfl) <| Y.fa rfl rfl <| Y.fa rfl rfl <| Y.j H 0 rfl rfl rfl <| Y.v (Ev.mul rfl rfl (by unfold fits; omega)) <| Y.v (Y.p rfl rfl) <| Y.v (Ev.nilCheckP rfl) <| Y.fa rfl rfl <| OPS.nil_s <| Y.ss 0 H rfl (cI rfl) rfl ?_
 clear H; intro w H
 refine Y.z <| Y.q <| Y.q <| WP.rstill mixed (by kernel_rfl) H ?_
 clear H; intro w hbw5 H
 refine Y.v (Ev.mvP rfl) <| Y.v (Ev.nilCheckP rfl) <| Y.fa rfl rfl <| Y.j H 0 rfl rfl rfl <| Y.v (Ev.mvP rfl) <| Y.v (Ev.nilCheckP rfl) <| Y.fa rfl rfl <| Y.fa rfl rfl <| Y.fa rfl rfl <| Y.j H 0 rfl rfl rfl <| Y.v (Ev.gtr rfl rfl) <| OPS.nil_s ?_
 refine WP.cond rfl (fun hc5 => ?_) (fun hc5 => ?_)
 ·refine Y.qr <| Y.b rfl <| Y.z ?_
  refine WP.ret ⟨_, rfl, ?_⟩
  have hlt : t.to_ < s.now + d + s.load * hd := by simpa using hc5
  have he : homeE d hd t s = 25 := by rw [homeE, if_neg (by omega), if_pos hlt]
  rw [he]
  exact ⟨rfl, fun h => absurd h (by decide), _, H⟩
 refine Y.k <| Y.qr <| Y.b rfl <| Y.z ?_
 refine WP.ret ⟨_, rfl, ?_⟩
 have hlt : ¬ t.to_ < s.now + d + s.load * hd := by simpa using hc5
 have he : homeE d hd t s = 0 := by rw [homeE, if_neg (by omega), if_neg hlt]
 rw [he]
 exact ⟨rfl, fun _ => by unfold homeT; rw [hvT]; exact H, _, H⟩
end Go.Proofs.YtgcokllbophkkaaGreat
namespace Go.Proofs.YtgcokllbophkkaaGreat
open Go Go.W Go.RowKit
section
variable (D : Nat → Nat → Int) (cap hd : Int) (ns : List Need)
def needAt (i : Int) : Need := ns.getD i.toNat default
def goD (i : Int) (s : TS) : Int := D s.at_ (needAt ns i).node.toNat
def goT : List Int → TS → TS
 | [], s => s
 | i :: r, s => goT r (visitT (goD D ns i s) hd (needAt ns i) s)
def goE : List Int → TS → Int
 | [], _ => 0
 | i :: r, s => if visitE (goD D ns i s) cap (needAt ns i) s ≠ 0 then visitE (goD D ns i s) cap (needAt ns i) s else goE r (visitT (goD D ns i s) hd (needAt ns i) s)
def goV : List Int → TS → List Vis
 | [], _ => []
 | i :: r, s => visitV (goD D ns i s) hd i (needAt ns i) s :: goV r (visitT (goD D ns i s) hd (needAt ns i) s)
theorem goT_app : ∀ (a b : List Int) (s : TS), goT D hd ns (a ++ b) s = goT D hd ns b (goT D hd ns a s)
 | [], _, _ => rfl
 | _ :: a, b, s => goT_app a b _
theorem goV_app : ∀ (a b : List Int) (s : TS), goV D hd ns (a ++ b) s = goV D hd ns a s ++ goV D hd ns b (goT D hd ns a s)
 | [], _, _ => rfl
 | _ :: a, b, s => congrArg (_ :: ·) (goV_app a b _)
theorem goE_app : ∀ (a b : List Int) (s : TS), goE D cap hd ns (a ++ b) s = if goE D cap hd ns a s ≠ 0 then goE D cap hd ns a s else goE D cap hd ns b (goT D hd ns a s)
 | [], b, s => by simp [goE, goT]
 | i :: a, b, s => by
  have h := goE_app a b (visitT (goD D ns i s) hd (needAt ns i) s)
  show (if visitE (goD D ns i s) cap (needAt ns i) s ≠ 0 then visitE (goD D ns i s) cap (needAt ns i) s else goE D cap hd ns (a ++ b) (visitT (goD D ns i s) hd (needAt ns i) s)) = _
  rw [h]
  simp only [goE, goT]
  by_cases hv : visitE (goD D ns i s) cap (needAt ns i) s = 0
  ·simp [hv]
  ·simp [hv]
theorem goV_len : ∀ (a : List Int) (s : TS), (goV D hd ns a s).length = a.length
 | [], _ => rfl
 | _ :: a, s => congrArg (· + 1) (goV_len a _)
end
def startT (t : Truck) : TS := ⟨t.depot.toNat, t.from_, 0, 0⟩
def outB (k i : Int) : Bool := !inB i 0 (k - 1)
def routeErr (ts : List Truck) (ns : List Need) (rt : Int) (rn : List Int) : Int :=
 if outB ts.length rt = true ∨ rn.any (outB ns.length) = true then 7 else if twiceB rn = true then 6 else 0
noncomputable def roadD (n : Int) (l : List Edg) (a v : Nat) : Int := roadT n.toNat l a v
noncomputable def endT (n : Int) (l : List Edg) (ts : List Truck) (ns : List Need) (hd : Int) (rt : Int) (rn : List Int) : TS :=
 goT (roadD n l) hd ns rn (startT (ts.getD rt.toNat default))
noncomputable def walkE (n : Int) (l : List Edg) (ts : List Truck) (ns : List Need) (hd : Int) (rt : Int) (rn : List Int) : Int :=
 if nightErr n l ts ns hd ≠ 0 then nightErr n l ts ns hd else if routeErr ts ns rt rn ≠ 0 then routeErr ts ns rt rn
 else if goE (roadD n l) (ts.getD rt.toNat default).cap hd ns rn (startT (ts.getD rt.toNat default)) ≠ 0 then goE (roadD n l) (ts.getD rt.toNat default).cap hd ns rn (startT (ts.getD rt.toNat default))
 else homeE (roadD n l (endT n l ts ns hd rt rn).at_ (ts.getD rt.toNat default).depot.toNat) hd (ts.getD rt.toNat default) (endT n l ts ns hd rt rn)
noncomputable def walkT (n : Int) (l : List Edg) (ts : List Truck) (ns : List Need) (hd : Int) (rt : Int) (rn : List Int) : TS :=
 homeT (roadD n l (endT n l ts ns hd rt rn).at_ (ts.getD rt.toNat default).depot.toNat) hd (ts.getD rt.toNat default) (endT n l ts ns hd rt rn)
noncomputable def walkV (n : Int) (l : List Edg) (ts : List Truck) (ns : List Need) (hd : Int) (rt : Int) (rn : List Int) : List Vis :=
 goV (roadD n l) hd ns rn (startT (ts.getD rt.toNat default))
structure NightOk (m : Nat) (l : List Edg) (ts : List Truck) (ns : List Need) (hd : Int) : Prop where
 road : RoadOk m l
 tl : ts.length ≤ 8
 nl : ns.length ≤ 16
 tr : ∀ t ∈ ts, (0 ≤ t.depot ∧ t.depot < m) ∧ (1 ≤ t.cap ∧ t.cap ≤ 32) ∧ 0 ≤ t.from_ ∧ t.from_ ≤ t.to_ ∧ t.to_ ≤ 86400
 nd : ∀ x ∈ ns, (0 ≤ x.node ∧ x.node < m) ∧ x.move ≠ 0 ∧ -32 ≤ x.move ∧ x.move ≤ 32
 hh : 0 ≤ hd ∧ hd ≤ 3600
 one : (ns.map (·.node)).Nodup
theorem nightOk_of {n : Int} {l : List Edg} {ts : List Truck} {ns : List Need} {hd : Int} (h : nightErr n l ts ns hd = 0) : ∃ m : Nat, n = m ∧ NightOk m l ts ns hd := by
 unfold nightErr at h
 split at h
 ·rename_i h1; exact absurd h h1
 ·rename_i h1
  obtain ⟨m, rfl, hok⟩ := roadOk_of (by simpa using h1)
  split at h
  ·cases h
  ·rename_i h2
   split at h
   ·rename_i h3; exact absurd h h3
   ·rename_i h3
    split at h
    ·rename_i h4; exact absurd h h4
    ·rename_i h4
     split at h
     ·cases h
     ·rename_i h5
      split at h
      ·rename_i h6
       have h2' : ts.length ≤ 8 ∧ ns.length ≤ 16 := by simp [fullB] at h2; omega
       refine ⟨m, rfl, hok, h2'.1, h2'.2, fun t ht => ?_, fun x hx => ?_, by simpa [inB] using h6, ?_⟩
       ·have := trucksErr_ok (by simpa using h3) t ht
        simp [truckBad, truckRange, inB] at this
        omega
       ·have := needsErr_ok (by simpa using h4) x hx
        simp [needBad, needRange, inB] at this
        omega
       ·simpa [needTwice, twiceB] using h5
      ·cases h
theorem nodup_len {rn : List Int} {N : Nat} (h1 : rn.Nodup) (h2 : ∀ i ∈ rn, 0 ≤ i ∧ i < N) : rn.length ≤ N := by
 have h3 : (rn.map Int.toNat).Nodup := by
  rw [List.nodup_iff_pairwise_ne, List.pairwise_map]
  refine List.Pairwise.imp_of_mem ?_ (List.nodup_iff_pairwise_ne.1 h1)
  intro a b ha hb hne he
  have := h2 a ha
  have := h2 b hb
  omega
 have h4 : (rn.map Int.toNat).length ≤ (List.range N).length := by
  refine List.Nodup.length_le_of_subset h3 (fun x hx => ?_)
  obtain ⟨i, hi, rfl⟩ := List.mem_map.1 hx
  have := h2 i hi
  simp; omega
 simpa using h4
theorem routeOk_of {ts : List Truck} {ns : List Need} {rt : Int} {rn : List Int} (h : routeErr ts ns rt rn = 0) : (0 ≤ rt ∧ rt < ts.length) ∧ (∀ i ∈ rn, 0 ≤ i ∧ i < ns.length) ∧ rn.Nodup ∧ rn.length ≤ ns.length := by
 unfold routeErr at h
 split at h
 ·cases h
 ·rename_i h1
  split at h
  ·cases h
  ·rename_i h2
   have h3 : rn.Nodup := by simpa [twiceB] using h2
   have h4 : ∀ i ∈ rn, 0 ≤ i ∧ i < ns.length := fun i hi => by
    have h5 : outB ns.length i = false := by
     cases hc : outB ns.length i with
     | true => exact absurd (Or.inr (List.any_eq_true.2 ⟨i, hi, hc⟩)) h1
     | false => rfl
    simp [outB, inB] at h5; omega
   refine ⟨?_, h4, h3, nodup_len h3 h4⟩
   have h5 : outB ts.length rt = false := by
    cases hc : outB ts.length rt with
    | true => exact absurd (Or.inl hc) h1
    | false => rfl
   simp [outB, inB] at h5; omega
structure TSOk (m : Nat) (cap : Int) (j : Nat) (s : TS) : Prop where
 at_ : s.at_ < m
 now : 0 ≤ s.now ∧ s.now ≤ 86400 + 200000 * j
 driven : 0 ≤ s.driven ∧ s.driven ≤ 64000 * j
 load : 0 ≤ s.load ∧ s.load ≤ cap
end Go.Proofs.YtgcokllbophkkaaGreat
namespace Go.Proofs.YtgcokllbophkkaaGreat
open Go Go.W Go.RowKit
theorem visitE_ok {d cap : Int} {x : Need} {s : TS} (h : visitE d cap x s = 0) : 0 ≤ d ∧ 0 ≤ s.load + x.move ∧ s.load + x.move ≤ cap := by
 unfold visitE at h
 split at h
 ·cases h
 ·split at h
  ·rename_i h1 h2
   simp [inB] at h2
   omega
  ·cases h
theorem TSOk.step {m j : Nat} {l : List Edg} {cap hd : Int} {x : Need} {s : TS} (h : TSOk m cap j s) (hok : RoadOk m l) (hx : (0 ≤ x.node ∧ x.node < m) ∧ x.move ≠ 0 ∧ -32 ≤ x.move ∧ x.move ≤ 32) (hh : 0 ≤ hd ∧ hd ≤ 3600) (hv : visitE (roadT m l s.at_ x.node.toNat) cap x s = 0) : TSOk m cap (j + 1) (visitT (roadT m l s.at_ x.node.toNat) hd x s) := by
 obtain ⟨h1, h2, h3⟩ := visitE_ok hv
 have hbd := roadT_bd hok h.at_ (v := x.node.toNat) (by omega)
 generalize roadT m l s.at_ x.node.toNat = d at *
 have hxa : 0 ≤ absI x.move ∧ absI x.move ≤ 32 := by unfold absI; split <;> omega
 have hmul : 0 ≤ absI x.move * hd ∧ absI x.move * hd ≤ 115200 := by
  refine ⟨Int.mul_nonneg hxa.1 hh.1, ?_⟩
  calc absI x.move * hd ≤ 32 * hd := Int.mul_le_mul_of_nonneg_right hxa.2 hh.1
   _ ≤ 115200 := by omega
 have := h.now
 have := h.driven
 refine ⟨?_, ?_, ?_, ?_⟩
 ·show x.node.toNat < m; omega
 ·show 0 ≤ s.now + d + absI x.move * hd ∧ s.now + d + absI x.move * hd ≤ 86400 + 200000 * ((j + 1 : Nat) : Int)
  omega
 ·show 0 ≤ s.driven + d ∧ s.driven + d ≤ 64000 * ((j + 1 : Nat) : Int)
  omega
 ·exact ⟨h2, h3⟩
theorem TSOk.start {m : Nat} {t : Truck} (h : (0 ≤ t.depot ∧ t.depot < m) ∧ (1 ≤ t.cap ∧ t.cap ≤ 32) ∧ 0 ≤ t.from_ ∧ t.from_ ≤ t.to_ ∧ t.to_ ≤ 86400) : TSOk m t.cap 0 (startT t) := by
 refine ⟨?_, ?_, ?_, ?_⟩
 ·show t.depot.toNat < m; omega
 ·show 0 ≤ t.from_ ∧ t.from_ ≤ 86400 + 200000 * ((0 : Nat) : Int); omega
 ·show (0 : Int) ≤ 0 ∧ (0 : Int) ≤ 64000 * ((0 : Nat) : Int); omega
 ·show (0 : Int) ≤ 0 ∧ 0 ≤ t.cap; omega
theorem rot3 {a b c : Blk} {Lo : List Blk} : ([a, b, c] ++ Lo).Perm (([b, c] ++ Lo) ++ [a]) := (List.perm_append_singleton a ([b, c] ++ Lo)).symm
theorem rot4 {v a b c : Blk} {Lo : List Blk} : (v :: (([b, c] ++ Lo) ++ [a])).Perm ([v, a, b, c] ++ Lo) := List.Perm.cons _ (List.perm_append_singleton a ([b, c] ++ Lo))
theorem truckWalkF (i : Int) (g k cc : Nat) (C : Option Addr) (w0 : World) (hk : k ≤ 1000) (hc : w0.cell? ⟨g, 3, none⟩ = some (.slice C k cc)) :
  Calls Tryz.prog 74 #[I i, .pointer (some ⟨g, 0, none⟩)] w0 fun e w' => e = .returned (.bool (outB k i)) ∧ Below w0.heap.size w0 w' := by
 have H := SH.refl w0
 refine Calls.ofWP Tryz.func74 rfl Tryz.results74 Tryz.ntmps74 rfl <| Y.qr <| Y.v (Ev.asB rfl) <| Y.z <| Y.qr <| Y.a rfl <| Y.fa rfl rfl <| Y.v (Y.c (H.ld0 (by assumption)) rfl) ?_
 refine Y.v (Y.n rfl) <| Y.v (Y.s rfl rfl) <| OPS.call (d := some 9) rfl rfl rfl (EvC.func (fun_run rfl)) (truckIn _ _ _ _) ?_
 rintro _ w ⟨rfl, hb⟩
 refine ⟨_, rfl, ?_⟩
 replace H := H.toBelow hb; clear hb
 refine Y.v (Ev.not rfl) <| Y.v (Ev.asB rfl) <| Y.z ?_
 refine WP.ret ⟨_, rfl, ?_⟩
 exact ⟨rfl, H.below⟩
theorem truckWalk (n hd rt : Int) (A B C R : Option Addr) (l : List Edg) (ts : List Truck) (ns : List Need) (rn : List Int) (ca cb cc cr : Nat) (w0 : World) (hz : EdgsAt w0 A l) (ht : RowsAt 4 truckCells w0 B ts) (hn : RowsAt 2 needCells w0 C ns) (hcc : ns.length ≤ cc) (hr : IntsAt w0 R rn) (hrl : rn.length ≤ maxLen) (hrc : rn.length ≤ cr) :
  Calls Tryz.prog 41 #[.agg #[I n, .slice A l.length ca, .slice B ts.length cb, .slice C ns.length cc, I hd], .agg #[I rt, .slice R rn.length cr]] w0 fun e w' =>
   (walkE n l ts ns hd rt rn ≠ 0 → e = .returned (.tuple #[.pointer none, .slice none 0 0, I (walkE n l ts ns hd rt rn)]) ∧ SH w0 [] w' []) ∧
   (walkE n l ts ns hd rt rn = 0 → ∃ (g m : Nat) (V : Option Addr) (cv : Nat) (Lv : List Blk), n = m ∧ e = .returned (.tuple #[.pointer (some ⟨g, 0, none⟩), .slice V rn.length cv, I 0]) ∧ OwnS V cv rn.length ((walkV n l ts ns hd rt rn).flatMap visCells) 127 4 Lv ∧
    SH w0 [] w' ([⟨g, 83, tourCells (ts.getD rt.toNat default) (nightL m A B C l.length ts.length ns.length ca cb cc hd) (walkT n l ts ns hd rt rn)⟩] ++ Lv)) := by
 have H := SH.refl w0
 refine Calls.ofWP Tryz.func41 rfl Tryz.results41 Tryz.ntmps41 rfl <| Y.qr <| Y.bx (cA rfl) H ?_
 clear H; intro g2 w H
 refine Y.bx (cA rfl) H ?_
 clear H; intro g3 w H
 refine Y.v (Ev.asP rfl) <| Y.v (Ev.asS rfl) <| Y.b rfl <| Y.z <| Y.q <| Y.qr <| Y.v (Y.o H 1 rfl rfl) <| OPS.call (d := some 16) rfl rfl rfl (EvC.func (fun_run rfl)) (truckCheck n hd A B C l ts ns ca cb cc w (hz.sh H) (ht.sh H) (hn.sh H) hcc) ?_
 rintro _ w ⟨rfl, hb⟩
 refine ⟨_, rfl, ?_⟩
 replace H := H.toBelow hb; clear hb
 refine Y.b rfl <| Y.z <| Y.qr <| Y.a rfl <| Y.v (Ev.neq rfl rfl) <| Y.z ?_
 refine WP.cond rfl (fun hc2 => ?_) (fun hc2 => ?_)
 ·refine Y.qr <| Y.a rfl <| Y.v (Ev.asP rfl) <| Y.v (Ev.asS rfl) <| Y.b rfl <| Y.z ?_
  refine WP.ret ⟨_, rfl, ?_⟩
  have h : nightErr n l ts ns hd ≠ 0 := by simpa using hc2
  have he : walkE n l ts ns hd rt rn = nightErr n l ts ns hd := by rw [walkE, if_pos h]
  rw [he]
  exact ⟨fun _ => ⟨rfl, H.reidx [] (by decide) rfl⟩, fun h2 => absurd h2 h⟩
 have h0 : nightErr n l ts ns hd = 0 := by simpa using hc2
 obtain ⟨m, rfl, hN⟩ := nightOk_of h0
 have htl := hN.tl
 have hnl := hN.nl
 have hh := hN.hh
 refine Y.k <| Y.q <| Y.qr <| Y.fa rfl rfl <| Y.j H 0 rfl rfl rfl <| Y.fa rfl rfl <| Y.j H 1 rfl rfl rfl <| Y.v (Y.n rfl) <| Y.v (Y.s rfl rfl) <| OPS.call (d := some 26) rfl rfl rfl (EvC.func (fun_run rfl)) (truckIn _ _ _ _) ?_
 rintro _ w ⟨rfl, hb⟩
 refine ⟨_, rfl, ?_⟩
 replace H := H.toBelow hb; clear hb
 refine Y.v (Ev.not rfl) <| Y.v (Ev.mvB rfl) <| Y.g rfl rfl (fun hg => Y.f rfl rfl) <| Y.y rfl rfl H 0 (fun hg => gvE hg rfl) rfl rfl <| Y.g rfl rfl (fun hg => Ev.makeFunc) <| OPS.gcall0 (f := 73) (slContainsFuncI R rn cr _ [.pointer (some ⟨g2, 0, none⟩)] (outB ns.length) _ (hr.sh H) hrl rfl (fun i _ w2 hb => truckWalkF i g2 ns.length cc C w2 (by omega) (cell_below hb (H.ldL 1 rfl 3 rfl)))) (fun _ _ h => h) rfl rfl rfl rfl rfl (fun hg => EvC.conv (EvC.func (fun_run rfl)) (l2 (gvE hg rfl) (gvE hg rfl))) ?_
 intro w hbc; replace H := H.toBelow hbc
 refine Y.v (Ev.pickOr rfl rfl rfl) <| Y.z ?_
 refine WP.cond rfl (fun hc4 => ?_) (fun hc4 => ?_)
 ·refine Y.qr <| Y.v (Ev.asP rfl) <| Y.v (Ev.asS rfl) <| Y.b rfl <| Y.z ?_
  refine WP.ret ⟨_, rfl, ?_⟩
  have he : routeErr ts ns rt rn = 7 := by
   unfold routeErr
   rw [if_pos]
   simpa [outB] using hc4
  have hw : walkE m l ts ns hd rt rn = 7 := by rw [walkE, if_neg (by simp [h0]), if_pos (by rw [he]; decide), he]
  rw [hw]
  exact ⟨fun _ => ⟨rfl, H.reidx [] (by decide) rfl⟩, fun h2 => absurd h2 (by decide)⟩
 refine Y.k <| Y.q <| Y.qr <| Y.fa rfl rfl <| Y.j H 0 rfl rfl rfl <| OPS.call (d := some 36) rfl rfl rfl (EvC.func (fun_run rfl)) (truckTwice R rn cr _ (hr.sh H) hrl hrc) ?_
 rintro _ w ⟨rfl, hb⟩
 refine ⟨_, rfl, ?_⟩
 replace H := H.toBelow hb; clear hb
 refine Y.z ?_
 refine WP.cond rfl (fun hc6 => ?_) (fun hc6 => ?_)
 ·refine Y.qr <| Y.v (Ev.asP rfl) <| Y.v (Ev.asS rfl) <| Y.b rfl <| Y.z ?_
  refine WP.ret ⟨_, rfl, ?_⟩
  have he : routeErr ts ns rt rn = 6 := by
   unfold routeErr
   rw [if_neg (by simpa [outB] using hc4), if_pos hc6]
  have hw : walkE m l ts ns hd rt rn = 6 := by rw [walkE, if_neg (by simp [h0]), if_pos (by rw [he]; decide), he]
  rw [hw]
  exact ⟨fun _ => ⟨rfl, H.reidx [] (by decide) rfl⟩, fun h2 => absurd h2 (by decide)⟩
 have he0 : routeErr ts ns rt rn = 0 := by
  unfold routeErr
  rw [if_neg (by simpa [outB] using hc4), if_neg (by simpa using hc6)]
 obtain ⟨hrt, hrr, hrd, hrlen⟩ := routeOk_of he0
 obtain ⟨q, rfl⟩ := Int.eq_ofNat_of_zero_le hrt.1
 have hq : q < ts.length := by omega
 have hgt : ts.getD (q : Int).toNat default = ts[q] := by simp [hq]
 obtain ⟨bt, ot, rfl, htc⟩ := ht q hq
 have htr := hN.tr ts[q] (List.getElem_mem hq)
 rw [hgt]
 have hw : walkE m l ts ns hd q rn = if goE (roadD m l) ts[q].cap hd ns rn (startT ts[q]) ≠ 0 then goE (roadD m l) ts[q].cap hd ns rn (startT ts[q]) else homeE (roadD m l (goT (roadD m l) hd ns rn (startT ts[q])).at_ ts[q].depot.toNat) hd ts[q] (goT (roadD m l) hd ns rn (startT ts[q])) := by
  rw [walkE, if_neg (by simp [h0]), if_neg (by simp [he0])]
  unfold endT
  rw [hgt]
 have hwT : walkT m l ts ns hd q rn = homeT (roadD m l (goT (roadD m l) hd ns rn (startT ts[q])).at_ ts[q].depot.toNat) hd ts[q] (goT (roadD m l) hd ns rn (startT ts[q])) := by
  unfold walkT endT
  rw [hgt]
 have hwV : walkV m l ts ns hd q rn = goV (roadD m l) hd ns rn (startT ts[q]) := by
  unfold walkV
  rw [hgt]
 rw [hw, hwT, hwV]
 clear hw hwT hwV
 obtain ⟨dv, hdv⟩ := Int.eq_ofNat_of_zero_le htr.1.1
 generalize htt : ts[q] = t at *
 refine Y.k <| Y.q <| WP.rtail 8 mixed (by kernel_rfl) H ?_
 clear H; intro w hbw8 H
 refine Y.fa rfl rfl <| Y.j H 1 rfl rfl rfl <| Y.fa rfl rfl <| Y.j H 0 rfl rfl rfl <| Y.v (Y.X rfl rfl rfl rfl rfl) ?_
 have htc' := cellsAt_sh H htc
 refine Y.v (by (change Ev _ _ _ _ (Op.load 81 (Operand.tmp 41)) _; exact Ev.loadN (truckCells t) (agg_run rfl) (size_run rfl) rfl htc')) <| Y.v (Y.o H 1 rfl rfl) <| Y.v (Ev.build (bld_83_0_1 rfl rfl)) <| OPS.nil_s <| Y.bx (cA rfl) H ?_
 clear H; intro g45 w H
 refine Y.v (Ev.asP rfl) <| Y.z <| Y.q ?_
 have Hf := H
 replace H := H.drop (L' := [_, _]) (List.sublist_cons_self _ _)
 refine WP.rheldC [46, 47, 48, 49, 50, 51, 52, 53, 54, 55, 56, 57, 58, 59, 60, 61, 62] (fun _ w' => SH w0 [] w' [⟨g45, 83, tourCells t (nightL m A (some ⟨bt, ot, none⟩) C l.length ts.length ns.length ca cb cc hd) (startT t)⟩, ⟨g3, 49, [I q, .slice R rn.length cr]⟩, ⟨g2, 28, [I m, .slice A l.length ca, .slice (some ⟨bt, ot, none⟩) ts.length cb, .slice C ns.length cc, I hd]⟩]) mixed H ?_ ?_
 ·clear H; intro w hbw9 H
  refine Y.t 0 H rfl rfl (fun w H => Ev.mvP rfl) <| Y.t 1 H rfl rfl (fun w H => Ev.mvP rfl) <| Y.t 2 H rfl rfl (fun w H => Ev.mvP rfl) <| Y.t 3 H rfl rfl (fun w H => Ev.nilCheckP rfl) <| Y.t 4 H rfl rfl (fun w H => Y.f rfl rfl) <| Y.t 5 H rfl rfl (fun w H => Y.f rfl rfl) <| Y.t 7 H rfl rfl (fun w H => Ev.mvP rfl) <| Y.t 8 H rfl rfl (fun w H => Ev.nilCheckP rfl) <| Y.t 9 H rfl rfl (fun w H => Y.f rfl rfl) <| Y.t 10 H rfl rfl (fun w H => Y.f rfl rfl) <| Y.t 11 H rfl rfl (fun w H => Y.f rfl rfl) ?_
  refine Y.A2 6 12 rfl rfl rfl ?_ ?_
  ·try replace Hf := Hf.toBelow hbw9
   refine Y.v (Y.l Hf 0 rfl rfl rfl) <| Y.z <| ⟨(H), ?_⟩
   refine Y.A1 12 rfl rfl ?_
   try replace Hf := Hf.toBelow hbw9
   refine Y.v (Y.l Hf 0 rfl rfl rfl) <| Y.z <| ⟨(H), ?_⟩
   refine Y.t 13 H rfl rfl (fun w H => Ev.nilCheckP rfl) <| Y.t 14 H rfl rfl (fun w H => Y.f rfl rfl) <| Y.A1 15 rfl rfl ?_
   try replace Hf := Hf.toBelow hbw9
   refine Y.st 0 Hf rfl (cI rfl) rfl ?_
   clear H Hf; intro w Hf
   simp only [List.set_cons_zero, List.set_cons_succ, putL, Nat.zero_add] at Hf
   have H := Hf.drop (L' := [_, _]) (List.sublist_cons_self _ _)
   refine Y.z <| ⟨(H), ?_⟩
   refine Y.t 16 H rfl rfl (fun w H => Ev.nilCheckP rfl) <| Y.t 17 H rfl rfl (fun w H => Y.f rfl rfl) <| Y.A1 18 rfl rfl ?_
   try replace Hf := Hf.toBelow hbw9
   refine Y.st 0 Hf rfl (cI rfl) rfl ?_
   clear H Hf; intro w Hf
   simp only [List.set_cons_zero, List.set_cons_succ, putL, Nat.zero_add] at Hf
   have H := Hf.drop (L' := [_, _]) (List.sublist_cons_self _ _)
   refine Y.z <| ⟨(H), ?_⟩
   refine Y.dn ?_
   exact ⟨Y.ag, (by rw [hdv] at Hf; unfold startT tourCells truckCells; rw [hdv, Int.toNat_natCast]; exact Hf)⟩
  ·try replace Hf := Hf.toBelow hbw9
   refine Y.v (Y.l Hf 0 rfl rfl rfl) <| Y.z <| ⟨(H), ?_⟩
   refine Y.A1 6 rfl rfl ?_
   try replace Hf := Hf.toBelow hbw9
   refine Y.v (Y.l Hf 0 rfl rfl rfl) <| Y.z <| ⟨(H), ?_⟩
   refine Y.t 13 H rfl rfl (fun w H => Ev.nilCheckP rfl) <| Y.t 14 H rfl rfl (fun w H => Y.f rfl rfl) <| Y.A1 15 rfl rfl ?_
   try replace Hf := Hf.toBelow hbw9
   refine Y.st 0 Hf rfl (cI rfl) rfl ?_
   clear H Hf; intro w Hf
   simp only [List.set_cons_zero, List.set_cons_succ, putL, Nat.zero_add] at Hf
   have H := Hf.drop (L' := [_, _]) (List.sublist_cons_self _ _)
   refine Y.z <| ⟨(H), ?_⟩
   refine Y.t 16 H rfl rfl (fun w H => Ev.nilCheckP rfl) <| Y.t 17 H rfl rfl (fun w H => Y.f rfl rfl) <| Y.A1 18 rfl rfl ?_
   try replace Hf := Hf.toBelow hbw9
   refine Y.st 0 Hf rfl (cI rfl) rfl ?_
   clear H Hf; intro w Hf
   simp only [List.set_cons_zero, List.set_cons_succ, putL, Nat.zero_add] at Hf
   have H := Hf.drop (L' := [_, _]) (List.sublist_cons_self _ _)
   refine Y.z <| ⟨(H), ?_⟩
   refine Y.dn ?_
   exact ⟨Y.ag, (by rw [hdv] at Hf; unfold startT tourCells truckCells; rw [hdv, Int.toNat_natCast]; exact Hf)⟩
 clear H
 rintro u w H
 refine Y.qr <| Y.v (Ev.asS rfl) <| Y.z <| Y.q <| Y.qr <| Y.fa rfl rfl <| Y.j H 1 rfl rfl rfl <| Y.v (Y.n rfl) <| Y.a rfl <| Y.z <| WP.block <| WP.loop [4, 5, 6, 9, 11, 12, 13, 66, 67, 68, 69, 70, 71, 72, 73, 74, 75, 76, 77, 78, 79, 80, 81, 82, 83] (fun k e w' => ∃ (j : Nat) (s : TS) (V : Option Addr) (cv : Nat) (Lo : List Blk), j + k = rn.length ∧ e 66 = I j ∧ e 9 = .slice V j cv ∧ OwnS V cv j ((goV (roadD m l) hd ns (rn.take j) (startT t)).flatMap visCells) 127 4 Lo ∧ goT (roadD m l) hd ns (rn.take j) (startT t) = s ∧ goE (roadD m l) t.cap hd ns (rn.take j) (startT t) = 0 ∧ TSOk m t.cap j s ∧ SH w0 [] w' ([⟨g45, 83, tourCells t (nightL m A (some ⟨bt, ot, none⟩) C l.length ts.length ns.length ca cb cc hd) (s)⟩, ⟨g3, 49, [I q, .slice R rn.length cr]⟩, ⟨g2, 28, [I m, .slice A l.length ca, .slice (some ⟨bt, ot, none⟩) ts.length cb, .slice C ns.length cc, I hd]⟩] ++ Lo)) (rn.length) (⟨0, startT t, none, 0, [], by omega, rfl, rfl, OwnS.nil, rfl, rfl, TSOk.start htr, by simpa using H⟩) ?_
 clear H
 rintro k u w ⟨j, s, V, cv, Lo, hk, h66, h9, hO, hgT, hgE, hS, H⟩
 refine WP.know (t := 66) h66 (WP.know (t := 9) h9 ?_)
 have hg45 : w0.heap.size ≤ g45 := by
  rcases H.may ⟨g45, 83, tourCells t (nightL m A (some ⟨bt, ot, none⟩) C l.length ts.length ns.length ca cb cc hd) (s)⟩ (by simp) with h | h
  ·exact h
  ·cases h
 have hA : l ≠ [] → Off A [g45] := hz.off (fun x => by simp [edgCells]) (fun g hg => by simp at hg; subst hg; exact hg45)
 have hC : ns ≠ [] → Off C [g45] := hn.off (fun x => by simp [needCells]) (fun g hg => by simp at hg; subst hg; exact hg45)
 have hjn : j ≤ 16 := by omega
 have hSn := hS.now
 have hSd := hS.driven
 have hSl := hS.load
 have htc2 := htr.2.1
 refine Y.qr <| Y.v (Ev.lss rfl rfl) <| Y.z <| Y.q ?_
 refine WP.cond rfl (fun hc12 => ?_) (fun hc12 => ?_)
 ·have hlt : j < rn.length := by simp at hc12; omega
  obtain ⟨hi0, hi1⟩ := hrr rn[j] (List.getElem_mem hlt)
  obtain ⟨ni, hni⟩ := Int.eq_ofNat_of_zero_le hi0
  have hnl2 : ni < ns.length := by omega
  have hnx := hN.nd ns[ni] (List.getElem_mem hnl2)
  obtain ⟨br, orr, rfl, hx⟩ := hr j hlt
  rw [hni] at hx
  have hna : needAt ns rn[j] = ns[ni] := by rw [hni]; simp [needAt, hnl2]
  have hgD : goD (roadD m l) ns rn[j] s = roadT m l s.at_ ns[ni].node.toNat := by unfold goD roadD; rw [hna]; simp
  have htk : rn.take (j + 1) = rn.take j ++ [rn[j]] := List.take_succ_eq_append_getElem hlt
  have hE1 : goE (roadD m l) t.cap hd ns (rn.take (j + 1)) (startT t) = visitE (roadT m l s.at_ ns[ni].node.toNat) t.cap ns[ni] s := by
   rw [htk, goE_app, hgE, hgT]
   simp only [goE, hgD, hna]
   by_cases h : visitE (roadT m l s.at_ ns[ni].node.toNat) t.cap ns[ni] s = 0 <;> simp [h]
  refine Y.k <| Y.q <| WP.block <| Y.qr <| Y.v (Y.x rfl rfl rfl rfl) <| Y.v (Y.c (H.ld0 (by assumption)) rfl) ?_
  refine Y.b rfl <| Y.z <| Y.q ?_
  replace H := H.perm rot3
  refine Y.r <| Y.v (Ev.mvP rfl) <| Y.a rfl <| OPS.call (d := some 73) rfl rfl rfl (EvC.func (fun_run rfl)) (tourVisit g45 m ni A (some ⟨bt, ot, none⟩) C l ns ts.length ca cb cc hd t s w [g45] hN.road hS.at_ (by omega) hnl2 (by omega) hh (hz.sh H) hA (hn.sh H) hC (H.restart (Lv := [_]) (List.sublist_append_right _ _)) rfl) ?_
  rintro _ w ⟨rfl, hg, Lx, Hx⟩
  refine ⟨_, rfl, ?_⟩
  obtain ⟨L', hL', HL⟩ : ∃ L' : List Blk, (visitE (roadT m l s.at_ ns[ni].node.toNat) t.cap ns[ni] s = 0 → L' = [⟨g45, 83, tourCells t (nightL m A (some ⟨bt, ot, none⟩) C l.length ts.length ns.length ca cb cc hd) (visitT (roadT m l s.at_ ns[ni].node.toNat) hd ns[ni] s)⟩]) ∧ SH _ [g45] w L' := by
   by_cases h : visitE (roadT m l s.at_ ns[ni].node.toNat) t.cap ns[ni] s = 0
   ·exact ⟨_, fun _ => rfl, hg h⟩
   ·exact ⟨Lx, fun h2 => absurd h2 h, Hx⟩
  replace H := SH.call (L1 := [_, _] ++ Lo) (Lv := [_]) H HL
  clear hg Hx HL
  refine Y.v (Ev.mvT rfl) <| Y.v (Ev.extract rfl rfl) <| Y.v (Ev.extract rfl rfl) <| Y.al H rfl rfl ?_
  clear H; intro g12 w H
  refine Y.ss 0 H rfl (cA rfl) rfl ?_
  clear H; intro w H
  refine Y.b rfl <| Y.z <| Y.q <| Y.qr <| Y.a rfl <| Y.v (Ev.neq rfl rfl) <| Y.z ?_
  refine WP.cond rfl (fun hc15 => ?_) (fun hc15 => ?_)
  ·have hv : visitE (roadT m l s.at_ ns[ni].node.toNat) t.cap ns[ni] s ≠ 0 := by simpa using hc15
   have hEn : goE (roadD m l) t.cap hd ns rn (startT t) = visitE (roadT m l s.at_ ns[ni].node.toNat) t.cap ns[ni] s := by
    have h := goE_app (roadD m l) t.cap hd ns (rn.take (j + 1)) (rn.drop (j + 1)) (startT t)
    rw [List.take_append_drop, hE1, if_pos hv] at h; exact h
   refine Y.qr <| Y.a rfl <| Y.v (Ev.asP rfl) <| Y.v (Ev.asS rfl) <| Y.b rfl <| Y.z ?_
   refine WP.ret ⟨_, rfl, ?_⟩
   rw [hEn, if_pos hv]
   exact ⟨fun _ => ⟨rfl, H.reidx [] (by decide) rfl⟩, fun h2 => absurd h2 hv⟩
  have hv : visitE (roadT m l s.at_ ns[ni].node.toNat) t.cap ns[ni] s = 0 := by simpa using hc15
  rw [hL' hv, if_pos hv] at H
  replace H := H.perm rot4
  have hS1 := hS.step hN.road hnx hh hv
  refine Y.k <| Y.r <| Y.v (Ev.mvS rfl) <| Y.v (Y.o H 0 rfl rfl) <| OPS.buildSlice rfl rfl rfl rfl (bsl_50_1_0 rfl) H ?_
  clear H; intro g81 w H
  refine OPS.append (m := 1) (news := visCells (visitV (roadT m l s.at_ ns[ni].node.toNat) hd ni ns[ni] s)) (R := [⟨g81, 127, visCells (visitV (roadT m l s.at_ ns[ni].node.toNat) hd ni ns[ni] s)⟩, ⟨g12, 127, visCells (visitV (roadT m l s.at_ ns[ni].node.toNat) hd ni ns[ni] s)⟩, ⟨g45, 83, tourCells t (nightL m A (some ⟨bt, ot, none⟩) C l.length ts.length ns.length ca cb cc hd) (visitT (roadT m l s.at_ ns[ni].node.toNat) hd ns[ni] s)⟩, ⟨g3, 49, [I q, .slice (some ⟨br, orr, none⟩) rn.length cr]⟩, ⟨g2, 28, [I m, .slice A l.length ca, .slice (some ⟨bt, ot, none⟩) ts.length cb, .slice C ns.length cc, I hd]⟩]) rfl rfl rfl rfl rfl (sl_run rfl) rfl rfl hO rfl (src_own H 0 rfl) rfl (by omega) (by unfold maxLen; omega) H (List.Perm.refl _) ?_
  clear H hO; intro V cv Lo w hO H
  refine Y.v (Ev.asS rfl) <| Y.z <| Y.r <| Y.v (Y.p rfl rfl) <| Y.a rfl <| Y.z ?_
  have hT1 : goT (roadD m l) hd ns (rn.take (j + 1)) (startT t) = visitT (roadT m l s.at_ ns[ni].node.toNat) hd ns[ni] s := by rw [htk, goT_app, hgT]; simp only [goT, hgD, hna]
  have hV1 : goV (roadD m l) hd ns (rn.take (j + 1)) (startT t) = goV (roadD m l) hd ns (rn.take j) (startT t) ++ [visitV (roadT m l s.at_ ns[ni].node.toNat) hd ni ns[ni] s] := by rw [htk, goV_app, hgT]; (simp only [goV, hgD, hna]; rw [hni])
  exact ⟨Y.ag, k - 1, by omega, j + 1, visitT (roadT m l s.at_ ns[ni].node.toNat) hd ns[ni] s, V, cv, Lo, by omega, rfl, rfl, (by rw [hV1, List.flatMap_append]; simpa using hO), hT1, (by rw [hE1]; exact hv), hS1, H.drop (((List.Sublist.refl _).cons _).cons _)⟩
 have hj : j = rn.length := by simp at hc12; omega
 subst hj
 rw [List.take_length] at hgT hgE hO
 rw [hgE, if_neg (by simp), hgT, show roadD m l s.at_ t.depot.toNat = roadT m l s.at_ t.depot.toNat from by unfold roadD; simp]
 replace H := H.perm rot3
 refine WP.exit <| XB.hit <| Y.q <| Y.qr <| Y.v (Ev.mvP rfl) <| OPS.call (d := some 85) rfl rfl rfl (EvC.func (fun_run rfl)) (tourHome g45 m A (some ⟨bt, ot, none⟩) C l ts.length ns.length ca cb cc hd t s w hN.road hS.at_ (by omega) htr.1 hh (hz.sh H) hA (H.restart (Lv := [_]) (List.sublist_append_right _ _))) ?_
 rintro _ w ⟨rfl, hg, Lx, Hx⟩
 refine ⟨_, rfl, ?_⟩
 obtain ⟨L', hL', HL⟩ : ∃ L' : List Blk, (homeE (roadT m l s.at_ t.depot.toNat) hd t s = 0 → L' = [⟨g45, 83, tourCells t (nightL m A (some ⟨bt, ot, none⟩) C l.length ts.length ns.length ca cb cc hd) (homeT (roadT m l s.at_ t.depot.toNat) hd t s)⟩]) ∧ SH _ [g45] w L' := by
  by_cases h : homeE (roadT m l s.at_ t.depot.toNat) hd t s = 0
  ·exact ⟨_, fun _ => rfl, hg h⟩
  ·exact ⟨Lx, fun h2 => absurd h2 h, Hx⟩
 replace H := SH.call (L1 := [_, _] ++ Lo) (Lv := [_]) H HL
 clear hg Hx HL
 refine Y.b rfl <| Y.z <| Y.qr <| Y.a rfl <| Y.v (Ev.neq rfl rfl) <| Y.z ?_
 refine WP.cond rfl (fun hc20 => ?_) (fun hc20 => ?_)
 ·refine Y.qr <| Y.a rfl <| Y.v (Ev.asP rfl) <| Y.v (Ev.asS rfl) <| Y.b rfl <| Y.z ?_
  refine WP.ret ⟨_, rfl, ?_⟩
  have hv : homeE (roadT m l s.at_ t.depot.toNat) hd t s ≠ 0 := by simpa using hc20
  exact ⟨fun _ => ⟨rfl, H.reidx [] (by decide) rfl⟩, fun h2 => absurd h2 hv⟩
 refine Y.k <| Y.qr <| Y.v (Ev.mvP rfl) <| Y.v (Ev.mvS rfl) <| Y.v (Ev.asP rfl) <| Y.v (Ev.asS rfl) <| Y.b rfl <| Y.z ?_
 refine WP.ret ⟨_, rfl, ?_⟩
 have hv : homeE (roadT m l s.at_ t.depot.toNat) hd t s = 0 := by simpa using hc20
 rw [hL' hv] at H
 have H2 := (H.perm rot3.symm)
 exact ⟨fun h2 => absurd hv h2, fun _ => ⟨g45, m, V, cv, Lo, rfl, rfl, hO, H2.drop (List.Sublist.cons_cons _ (((List.Sublist.refl _).cons _).cons _))⟩⟩
end Go.Proofs.YtgcokllbophkkaaGreat
namespace Go.Proofs.YtgcokllbophkkaaGreat
open Go Go.W Go.RowKit
noncomputable def outV (n : Int) (l : List Edg) (ts : List Truck) (ns : List Need) (hd rt : Int) (rn : List Int) : List Vis := if walkE n l ts ns hd rt rn = 0 then walkV n l ts ns hd rt rn else []
noncomputable def outB' (n : Int) (l : List Edg) (ts : List Truck) (ns : List Need) (hd rt : Int) (rn : List Int) : Int := if walkE n l ts ns hd rt rn = 0 then (walkT n l ts ns hd rt rn).now else 0
noncomputable def outD (n : Int) (l : List Edg) (ts : List Truck) (ns : List Need) (hd rt : Int) (rn : List Int) : Int := if walkE n l ts ns hd rt rn = 0 then (walkT n l ts ns hd rt rn).driven else 0
theorem walkV_len (n : Int) (l : List Edg) (ts : List Truck) (ns : List Need) (hd rt : Int) (rn : List Int) : (walkV n l ts ns hd rt rn).length = rn.length := by unfold walkV; rw [goV_len]
theorem truckWalk1 (n hd rt : Int) (A B C R : Option Addr) (l : List Edg) (ts : List Truck) (ns : List Need) (rn : List Int) (ca cb cc cr : Nat) (w0 : World) (hz : EdgsAt w0 A l) (ht : RowsAt 4 truckCells w0 B ts) (hn : RowsAt 2 needCells w0 C ns) (hcc : ns.length ≤ cc) (hr : IntsAt w0 R rn) (hrl : rn.length ≤ maxLen) (hrc : rn.length ≤ cr) (hE : walkE n l ts ns hd rt rn = 0) :
  Calls Tryz.prog 41 #[.agg #[I n, .slice A l.length ca, .slice B ts.length cb, .slice C ns.length cc, I hd], .agg #[I rt, .slice R rn.length cr]] w0 fun e w' => ∃ (g m : Nat) (V : Option Addr) (cv : Nat) (Lv : List Blk), n = m ∧ e = .returned (.tuple #[.pointer (some ⟨g, 0, none⟩), .slice V rn.length cv, I 0]) ∧ OwnS V cv rn.length ((walkV n l ts ns hd rt rn).flatMap visCells) 127 4 Lv ∧
    SH w0 [] w' ([⟨g, 83, tourCells (ts.getD rt.toNat default) (nightL m A B C l.length ts.length ns.length ca cb cc hd) (walkT n l ts ns hd rt rn)⟩] ++ Lv) :=
 Calls.mono (truckWalk n hd rt A B C R l ts ns rn ca cb cc cr w0 hz ht hn hcc hr hrl hrc) fun _ _ h => h.2 hE
theorem truckWalk0 (n hd rt : Int) (A B C R : Option Addr) (l : List Edg) (ts : List Truck) (ns : List Need) (rn : List Int) (ca cb cc cr : Nat) (w0 : World) (hz : EdgsAt w0 A l) (ht : RowsAt 4 truckCells w0 B ts) (hn : RowsAt 2 needCells w0 C ns) (hcc : ns.length ≤ cc) (hr : IntsAt w0 R rn) (hrl : rn.length ≤ maxLen) (hrc : rn.length ≤ cr) (hE : walkE n l ts ns hd rt rn ≠ 0) :
  Calls Tryz.prog 41 #[.agg #[I n, .slice A l.length ca, .slice B ts.length cb, .slice C ns.length cc, I hd], .agg #[I rt, .slice R rn.length cr]] w0 fun e w' => e = .returned (.tuple #[.pointer none, .slice none 0 0, I (walkE n l ts ns hd rt rn)]) ∧ SH w0 [] w' [] :=
 Calls.mono (truckWalk n hd rt A B C R l ts ns rn ca cb cc cr w0 hz ht hn hcc hr hrl hrc) fun _ _ h => h.1 hE
theorem truckWalkP (n hd rt : Int) (A B C R : Option Addr) (l : List Edg) (ts : List Truck) (ns : List Need) (rn : List Int) (ca cb cc cr : Nat) (w0 : World) (hz : EdgsAt w0 A l) (ht : RowsAt 4 truckCells w0 B ts) (hn : RowsAt 2 needCells w0 C ns) (hcc : ns.length ≤ cc) (hr : IntsAt w0 R rn) (hrl : rn.length ≤ maxLen) (hrc : rn.length ≤ cr) :
  Calls Tryz.prog 23 #[.agg #[I n, .slice A l.length ca, .slice B ts.length cb, .slice C ns.length cc, I hd], .agg #[I rt, .slice R rn.length cr]] w0 fun e w' =>
   ∃ (V : Option Addr) (cv : Nat) (Lv : List Blk), e = .returned (.tuple #[.slice V (outV n l ts ns hd rt rn).length cv, I (outB' n l ts ns hd rt rn), I (walkE n l ts ns hd rt rn)]) ∧ OwnS V cv (outV n l ts ns hd rt rn).length ((outV n l ts ns hd rt rn).flatMap visCells) 127 4 Lv ∧ SH w0 [] w' Lv := by
 have H := SH.refl w0
 by_cases hE : walkE n l ts ns hd rt rn = 0
 ·have e1 : outV n l ts ns hd rt rn = walkV n l ts ns hd rt rn := if_pos hE
  have e2 : outB' n l ts ns hd rt rn = (walkT n l ts ns hd rt rn).now := if_pos hE
  rw [e1, e2, walkV_len]
  refine Calls.ofWP Tryz.func23 rfl Tryz.results23 Tryz.ntmps23 rfl <| Y.qr <| Y.bx (cA rfl) H ?_
  clear H; intro g2 w H
  refine Y.bx (cA rfl) H ?_
  clear H; intro g3 w H
  refine Y.v (Ev.asS rfl) <| Y.b rfl <| Y.b rfl <| Y.z <| Y.qr <| Y.v (Y.o H 1 rfl rfl) <| Y.v (Y.o H 0 rfl rfl) <| OPS.call (d := some 13) rfl rfl rfl (EvC.func (fun_run rfl)) (truckWalk1 n hd rt A B C R l ts ns rn ca cb cc cr w (hz.sh H) (ht.sh H) (hn.sh H) hcc (hr.sh H) hrl hrc hE) ?_
  rintro _ w ⟨g, m, V, cv, Lv, rfl, rfl, hO, Hc⟩
  refine ⟨_, rfl, ?_⟩
  replace H := SH.call (L1 := [_, _]) (Lv := []) H Hc
  clear Hc
  rw [hE]
  unfold tourCells truckCells nightL at H
  simp only [List.cons_append, List.nil_append] at H
  refine Y.v (Ev.mvT rfl) <| Y.v (Ev.extract rfl rfl) <| Y.v (Ev.extract rfl rfl) <| Y.v (Ev.extract rfl rfl) <| Y.v (Ev.asP rfl) <| Y.v (Ev.asS rfl) <| Y.b rfl <| Y.z <| Y.q <| Y.qr <| Y.a rfl <| Y.v (Ev.neq rfl rfl) <| Y.z ?_
  refine WP.cond rfl (fun hc2 => ?_) (fun hc2 => ?_)
  ·refine Y.qr <| Y.a rfl <| Y.v (Ev.asS rfl) <| Y.b rfl <| Y.b rfl <| Y.z ?_
   refine WP.ret ⟨_, rfl, ?_⟩
   exact absurd hc2 (by decide)
  refine Y.k <| Y.q <| WP.rstill mixed (by kernel_rfl) H ?_
  clear H; intro w hbw4 H
  refine Y.v (Ev.mvS rfl) <| Y.v (Ev.mvP rfl) <| Y.v (Ev.nilCheckP rfl) <| Y.fa rfl rfl <| Y.j H 2 rfl rfl rfl <| Y.v (Ev.asS rfl) <| Y.b rfl <| Y.b rfl <| OPS.nil_s ?_
  refine WP.ret ⟨_, rfl, ?_⟩
  exact ⟨V, cv, Lv, rfl, hO, H.drop ((((List.Sublist.refl _).cons _).cons _).cons _)⟩
 ·have e1 : outV n l ts ns hd rt rn = [] := if_neg hE
  have e2 : outB' n l ts ns hd rt rn = 0 := if_neg hE
  rw [e1, e2]
  refine Calls.ofWP Tryz.func23 rfl Tryz.results23 Tryz.ntmps23 rfl <| Y.qr <| Y.bx (cA rfl) H ?_
  clear H; intro g2 w H
  refine Y.bx (cA rfl) H ?_
  clear H; intro g3 w H
  refine Y.v (Ev.asS rfl) <| Y.b rfl <| Y.b rfl <| Y.z <| Y.qr <| Y.v (Y.o H 1 rfl rfl) <| Y.v (Y.o H 0 rfl rfl) <| OPS.call (d := some 13) rfl rfl rfl (EvC.func (fun_run rfl)) (truckWalk0 n hd rt A B C R l ts ns rn ca cb cc cr w (hz.sh H) (ht.sh H) (hn.sh H) hcc (hr.sh H) hrl hrc hE) ?_
  rintro _ w ⟨rfl, Hc⟩
  refine ⟨_, rfl, ?_⟩
  replace H := SH.call (L1 := [_, _]) (Lv := []) H Hc
  clear Hc
  refine Y.v (Ev.mvT rfl) <| Y.v (Ev.extract rfl rfl) <| Y.v (Ev.extract rfl rfl) <| Y.v (Ev.extract rfl rfl) <| Y.v (Ev.asP rfl) <| Y.v (Ev.asS rfl) <| Y.b rfl <| Y.z <| Y.q <| Y.qr <| Y.a rfl <| Y.v (Ev.neq rfl rfl) <| Y.z ?_
  refine WP.cond rfl (fun hc2 => ?_) (fun hc2 => ?_)
  ·refine Y.qr <| Y.a rfl <| Y.v (Ev.asS rfl) <| Y.b rfl <| Y.b rfl <| Y.z ?_
   refine WP.ret ⟨_, rfl, ?_⟩
   exact ⟨none, 0, [], rfl, OwnS.nil, H.reidx [] (by decide) rfl⟩
  refine Y.k <| Y.q ?_
  exact absurd hc2 (by simp [hE])
theorem truckDriving (n hd rt : Int) (A B C R : Option Addr) (l : List Edg) (ts : List Truck) (ns : List Need) (rn : List Int) (ca cb cc cr : Nat) (w0 : World) (hz : EdgsAt w0 A l) (ht : RowsAt 4 truckCells w0 B ts) (hn : RowsAt 2 needCells w0 C ns) (hcc : ns.length ≤ cc) (hr : IntsAt w0 R rn) (hrl : rn.length ≤ maxLen) (hrc : rn.length ≤ cr) :
  Calls Tryz.prog 36 #[.agg #[I n, .slice A l.length ca, .slice B ts.length cb, .slice C ns.length cc, I hd], .agg #[I rt, .slice R rn.length cr]] w0 fun e w' =>
   e = .returned (.tuple #[I (outD n l ts ns hd rt rn), I (walkE n l ts ns hd rt rn)]) ∧ Below w0.heap.size w0 w' := by
 have H := SH.refl w0
 by_cases hE : walkE n l ts ns hd rt rn = 0
 ·have e1 : outD n l ts ns hd rt rn = (walkT n l ts ns hd rt rn).driven := if_pos hE
  rw [e1]
  refine Calls.ofWP Tryz.func36 rfl Tryz.results36 Tryz.ntmps36 rfl <| Y.qr <| Y.bx (cA rfl) H ?_
  clear H; intro g2 w H
  refine Y.bx (cA rfl) H ?_
  clear H; intro g3 w H
  refine Y.b rfl <| Y.b rfl <| Y.z <| Y.qr <| Y.v (Y.o H 1 rfl rfl) <| Y.v (Y.o H 0 rfl rfl) <| OPS.call (d := some 12) rfl rfl rfl (EvC.func (fun_run rfl)) (truckWalk1 n hd rt A B C R l ts ns rn ca cb cc cr w (hz.sh H) (ht.sh H) (hn.sh H) hcc (hr.sh H) hrl hrc hE) ?_
  rintro _ w ⟨g, m, V, cv, Lv, rfl, rfl, hO, Hc⟩
  refine ⟨_, rfl, ?_⟩
  replace H := SH.call (L1 := [_, _]) (Lv := []) H Hc
  clear Hc
  rw [hE]
  unfold tourCells truckCells nightL at H
  simp only [List.cons_append, List.nil_append] at H
  refine Y.v (Ev.mvT rfl) <| Y.v (Ev.extract rfl rfl) <| Y.v (Ev.extract rfl rfl) <| Y.v (Ev.extract rfl rfl) <| Y.v (Ev.asP rfl) <| Y.v (Ev.asS rfl) <| Y.b rfl <| Y.z <| Y.q <| Y.qr <| Y.a rfl <| Y.v (Ev.neq rfl rfl) <| Y.z ?_
  refine WP.cond rfl (fun hc2 => ?_) (fun hc2 => ?_)
  ·refine Y.qr <| Y.a rfl <| Y.b rfl <| Y.b rfl <| Y.z ?_
   refine WP.ret ⟨_, rfl, ?_⟩
   exact absurd hc2 (by decide)
  refine Y.k <| Y.qr <| Y.v (Ev.mvP rfl) <| Y.v (Ev.nilCheckP rfl) <| Y.fa rfl rfl <| Y.j H 2 rfl rfl rfl <| Y.b rfl <| Y.b rfl <| Y.z ?_
  refine WP.ret ⟨_, rfl, ?_⟩
  exact ⟨rfl, H.below⟩
 ·have e1 : outD n l ts ns hd rt rn = 0 := if_neg hE
  rw [e1]
  refine Calls.ofWP Tryz.func36 rfl Tryz.results36 Tryz.ntmps36 rfl <| Y.qr <| Y.bx (cA rfl) H ?_
  clear H; intro g2 w H
  refine Y.bx (cA rfl) H ?_
  clear H; intro g3 w H
  refine Y.b rfl <| Y.b rfl <| Y.z <| Y.qr <| Y.v (Y.o H 1 rfl rfl) <| Y.v (Y.o H 0 rfl rfl) <| OPS.call (d := some 12) rfl rfl rfl (EvC.func (fun_run rfl)) (truckWalk0 n hd rt A B C R l ts ns rn ca cb cc cr w (hz.sh H) (ht.sh H) (hn.sh H) hcc (hr.sh H) hrl hrc hE) ?_
  rintro _ w ⟨rfl, Hc⟩
  refine ⟨_, rfl, ?_⟩
  replace H := SH.call (L1 := [_, _]) (Lv := []) H Hc
  clear Hc
  refine Y.v (Ev.mvT rfl) <| Y.v (Ev.extract rfl rfl) <| Y.v (Ev.extract rfl rfl) <| Y.v (Ev.extract rfl rfl) <| Y.v (Ev.asP rfl) <| Y.v (Ev.asS rfl) <| Y.b rfl <| Y.z <| Y.q <| Y.qr <| Y.a rfl <| Y.v (Ev.neq rfl rfl) <| Y.z ?_
  refine WP.cond rfl (fun hc2 => ?_) (fun hc2 => ?_)
  ·refine Y.qr <| Y.a rfl <| Y.b rfl <| Y.b rfl <| Y.z ?_
   refine WP.ret ⟨_, rfl, ?_⟩
   exact ⟨rfl, H.below⟩
  refine Y.k <| Y.q ?_
  exact absurd hc2 (by simp [hE])
end Go.Proofs.YtgcokllbophkkaaGreat
namespace Go.Proofs.YtgcokllbophkkaaGreat
open Go Go.W Go.RowKit
def truckErr1 (n : Int) (t : Truck) : Int := if truckBad n t = true then 7 else if truckRange t = true then 1 else 0
def needErr1 (n : Int) (x : Need) : Int := if needBad n x = true then 7 else if needRange x = true then 1 else 0
theorem r42Truck (n hd : Int) (A B C : Option Addr) (ll tl nl ca cb cc : Nat) (t : Truck) (w0 : World) :
  Calls Tryz.prog 54 #[.agg #[I n, .slice A ll ca, .slice B tl cb, .slice C nl cc, I hd], .agg #[I t.depot, I t.cap, I t.from_, I t.to_]] w0 fun e w' => e = .returned (I (truckErr1 n t)) ∧ Below w0.heap.size w0 w' := by
 have H := SH.refl w0
 refine Calls.ofWP Tryz.func54 rfl Tryz.results54 Tryz.ntmps54 rfl <| Y.qr <| Y.bx (cA rfl) H ?_
 clear H; intro g2 w H
 refine Y.bx (cA rfl) H ?_
 clear H; intro g3 w H
 refine Y.b rfl <| Y.z <| Y.q <| Y.qr <| Y.fa rfl rfl <| Y.v (Ev.loadN [_, _] (agg_run rfl) (size_run rfl) rfl ⟨H.ldL 1 rfl _ rfl, H.ldL 1 rfl _ rfl, trivial⟩) <| Y.fa rfl rfl <| Y.j H 0 rfl rfl rfl <| OPS.call (d := some 9) rfl rfl rfl (EvC.func (fun_run rfl)) (r8Node n t.depot _ _ _ _) ?_
 rintro _ w ⟨rfl, hb⟩
 refine ⟨_, rfl, ?_⟩
 replace H := H.toBelow hb; clear hb
 refine Y.v (Ev.not rfl) <| Y.z ?_
 refine WP.cond rfl (fun hc1 => ?_) (fun hc1 => ?_)
 ·refine Y.qr <| Y.b rfl <| Y.z ?_
  refine WP.ret ⟨_, rfl, ?_⟩
  have h : truckBad n t = true := by
   simp [isNode] at hc1
   simp [truckBad, inB]
   omega
  exact ⟨by rw [truckErr1, if_pos h]; rfl, H.below⟩
 have h : truckBad n t = false := by
  simp [isNode] at hc1
  simp [truckBad, inB]
  omega
 refine Y.k <| Y.q <| Y.qr <| Y.fa rfl rfl <| Y.j H 0 rfl rfl rfl <| Y.v (Ev.lss rfl rfl) <| Y.v (Ev.mvB rfl) <| Y.g rfl rfl (fun hg => Y.f rfl rfl) <| Y.y rfl rfl H 0 (fun hg => gvE hg rfl) rfl rfl <| Y.g rfl rfl (fun hg => Ev.gtr (gvE hg rfl) rfl) <| Y.v (Ev.pickOr rfl rfl rfl) <| Y.v (Ev.mvB rfl) <| Y.g rfl rfl (fun hg => Y.f rfl rfl) <| Y.g rfl rfl (fun hg => Ev.fieldAddr (fld_run rfl) (gvE hg rfl)) <| Y.y rfl rfl H 0 (fun hg => gvE hg rfl) rfl rfl <| Y.g rfl rfl (fun hg => Ev.lss (gvE hg rfl) rfl) <| Y.v (Ev.pickOr rfl rfl rfl) <| Y.v (Ev.mvB rfl) <| Y.g rfl rfl (fun hg => Y.f rfl rfl) <| Y.g rfl rfl (fun hg => Ev.fieldAddr (fld_run rfl) (gvE hg rfl)) <| Y.y rfl rfl H 0 (fun hg => gvE hg rfl) rfl rfl <| Y.g rfl rfl (fun hg => Y.f rfl rfl) <| Y.g rfl rfl (fun hg => Ev.fieldAddr (fld_run rfl) (gvE hg rfl)) <| Y.y rfl rfl H 0 (fun hg => gvE hg rfl) rfl rfl <| Y.g rfl rfl (fun hg => Ev.lss (gvE hg rfl) (gvE hg rfl)) <| Y.v (Ev.pickOr rfl rfl rfl) <| Y.v (Ev.mvB rfl) <| Y.g rfl rfl (fun hg => Y.f rfl rfl) <| Y.g rfl rfl (fun hg => Ev.fieldAddr (fld_run rfl) (gvE hg rfl)) <| Y.y rfl rfl H 0 (fun hg => gvE hg rfl) rfl rfl <| Y.g rfl rfl (fun hg => Ev.gtr (gvE hg rfl) rfl) <| Y.v (Ev.pickOr rfl rfl rfl) <| Y.z ?_
 refine WP.cond rfl (fun hc3 => ?_) (fun hc3 => ?_)
 ·refine Y.qr <| Y.b rfl <| Y.z ?_
  refine WP.ret ⟨_, rfl, ?_⟩
  have h2 : truckRange t = true := by
   simp at hc3
   simp [truckRange, inB]
   omega
  exact ⟨by rw [truckErr1, if_neg (by simp [h]), if_pos h2]; rfl, H.below⟩
 refine Y.k <| Y.qr <| Y.b rfl <| Y.z ?_
 refine WP.ret ⟨_, rfl, ?_⟩
 have h2 : truckRange t = false := by
  simp at hc3
  simp [truckRange, inB]
  omega
 exact ⟨by rw [truckErr1, if_neg (by simp [h]), if_neg (by simp [h2])]; rfl, H.below⟩
theorem r42Need (n hd : Int) (A B C : Option Addr) (ll tl nl ca cb cc : Nat) (x : Need) (w0 : World) :
  Calls Tryz.prog 55 #[.agg #[I n, .slice A ll ca, .slice B tl cb, .slice C nl cc, I hd], .agg #[I x.node, I x.move]] w0 fun e w' => e = .returned (I (needErr1 n x)) ∧ Below w0.heap.size w0 w' := by
 have H := SH.refl w0
 refine Calls.ofWP Tryz.func55 rfl Tryz.results55 Tryz.ntmps55 rfl <| Y.qr <| Y.bx (cA rfl) H ?_
 clear H; intro g2 w H
 refine Y.bx (cA rfl) H ?_
 clear H; intro g3 w H
 refine Y.b rfl <| Y.z <| Y.q <| Y.qr <| Y.fa rfl rfl <| Y.v (Ev.loadN [_, _] (agg_run rfl) (size_run rfl) rfl ⟨H.ldL 1 rfl _ rfl, H.ldL 1 rfl _ rfl, trivial⟩) <| Y.fa rfl rfl <| Y.j H 0 rfl rfl rfl <| OPS.call (d := some 9) rfl rfl rfl (EvC.func (fun_run rfl)) (r8Node n x.node _ _ _ _) ?_
 rintro _ w ⟨rfl, hb⟩
 refine ⟨_, rfl, ?_⟩
 replace H := H.toBelow hb; clear hb
 refine Y.v (Ev.not rfl) <| Y.z ?_
 refine WP.cond rfl (fun hc1 => ?_) (fun hc1 => ?_)
 ·refine Y.qr <| Y.b rfl <| Y.z ?_
  refine WP.ret ⟨_, rfl, ?_⟩
  have h : needBad n x = true := by
   simp [isNode] at hc1
   simp [needBad, inB]
   omega
  exact ⟨by rw [needErr1, if_pos h]; rfl, H.below⟩
 have h : needBad n x = false := by
  simp [isNode] at hc1
  simp [needBad, inB]
  omega
 refine Y.k <| Y.q <| Y.qr <| Y.fa rfl rfl <| Y.j H 0 rfl rfl rfl <| Y.v (Ev.eql rfl rfl) <| Y.v (Ev.mvB rfl) <| Y.g rfl rfl (fun hg => Y.f rfl rfl) <| Y.y rfl rfl H 0 (fun hg => gvE hg rfl) rfl rfl <| Y.g rfl rfl (fun hg => Ev.lss (gvE hg rfl) rfl) <| Y.v (Ev.pickOr rfl rfl rfl) <| Y.v (Ev.mvB rfl) <| Y.g rfl rfl (fun hg => Y.f rfl rfl) <| Y.y rfl rfl H 0 (fun hg => gvE hg rfl) rfl rfl <| Y.g rfl rfl (fun hg => Ev.gtr (gvE hg rfl) rfl) <| Y.v (Ev.pickOr rfl rfl rfl) <| Y.z ?_
 refine WP.cond rfl (fun hc3 => ?_) (fun hc3 => ?_)
 ·refine Y.qr <| Y.b rfl <| Y.z ?_
  refine WP.ret ⟨_, rfl, ?_⟩
  have h2 : needRange x = true := by
   simp at hc3
   simp [needRange, inB]
   omega
  exact ⟨by rw [needErr1, if_neg (by simp [h]), if_pos h2]; rfl, H.below⟩
 refine Y.k <| Y.qr <| Y.b rfl <| Y.z ?_
 refine WP.ret ⟨_, rfl, ?_⟩
 have h2 : needRange x = false := by
  simp at hc3
  simp [needRange, inB]
  omega
 exact ⟨by rw [needErr1, if_neg (by simp [h]), if_neg (by simp [h2])]; rfl, H.below⟩
theorem r42Twice (A : Option Addr) (l : List Int) (cap : Nat) (w0 : World) (hz : IntsAt w0 A l) (hl : l.length ≤ maxLen) :
  Calls Tryz.prog 62 #[.slice A l.length cap] w0 fun e w' => e = .returned (.bool (twiceB l)) ∧ Below w0.heap.size w0 w' := by
 have H := SH.refl w0
 have hl' : l.length ≤ 9223372036854775807 := by unfold maxLen at hl; omega
 refine Calls.ofWP Tryz.func62 rfl Tryz.results62 Tryz.ntmps62 rfl <| Y.qr <| Y.v (Ev.asB rfl) <| Y.z <| Y.q <| Y.qr <| Y.b rfl <| Y.z <| WP.block <| WP.loop [2, 3, 4, 5, 6, 7, 8, 9, 10, 11, 12, 13, 14, 15, 16, 17, 18, 19, 20, 21, 22, 23, 24] (fun k e w' => ∃ j : Nat, j + k = l.length ∧ e 3 = I j ∧ SH w0 [] w' [] ∧ (l.take j).Nodup) (l.length) (⟨0, by omega, rfl, H, by simp⟩) ?_
 clear H
 rintro k u w ⟨j, hk, h3, H, hall⟩
 refine WP.know (t := 3) h3 <| Y.q <| Y.qr <| Y.a rfl <| Y.v (Ev.mvS rfl) <| Y.v (Y.n rfl) <| Y.v (Ev.lss rfl rfl) <| Y.z ?_
 refine WP.cond rfl (fun hc2 => ?_) (fun hc2 => ?_)
 ·have hlt : j < l.length := by simpa using hc2
  obtain ⟨b, o, rfl, hx⟩ := hz j hlt
  have hnt := nodup_take_succ hlt
  refine Y.k <| Y.q <| WP.block <| Y.qr <| Y.b rfl <| Y.z <| WP.block <| WP.loop [2, 4, 11, 12, 13, 14, 15, 16, 17, 18, 19, 20, 21, 22, 23, 24] (fun k2 e w' => ∃ i : Nat, i + k2 = j ∧ e 4 = I i ∧ SH w0 [] w' [] ∧ l[j] ∉ l.take i) (j) (⟨0, by omega, rfl, H, by simp⟩) ?_
  clear H
  rintro k2 u2 w ⟨i, hk2, h4, H, hno⟩
  refine WP.know (t := 4) h4 <| Y.q <| Y.qr <| Y.a rfl <| Y.a rfl <| Y.v (Ev.lss rfl rfl) <| Y.z ?_
  refine WP.cond rfl (fun hc5 => ?_) (fun hc5 => ?_)
  ·have hij : i < j := by simpa using hc5
   have hil : i < l.length := by omega
   have hxi := hz.atK hil
   refine Y.k <| Y.q <| WP.block <| Y.q <| WP.rstill mixed (by kernel_rfl) H ?_
   clear H; intro w hbw7 H
   refine Y.v (Ev.mvS rfl) <| Y.a rfl <| Y.v (Y.x rfl rfl rfl rfl) <| Y.v (Y.c (H.ld0 (by assumption)) rfl) ?_
   refine Y.v (Ev.mvS rfl) <| Y.a rfl <| Y.v (Y.x rfl rfl rfl rfl) <| Y.v (Y.c (H.ld0 (by assumption)) rfl) ?_
   refine Y.v (Ev.eql rfl rfl) <| OPS.nil_s ?_
   refine WP.cond rfl (fun hc7 => ?_) (fun hc7 => ?_)
   ·refine Y.qr <| Y.v (Ev.asB rfl) <| Y.z ?_
    refine WP.ret ⟨_, rfl, ?_⟩
    have he : l[i] = l[j] := by simpa using hc7
    have hm : l[j] ∈ l.take j := by rw [← he]; exact List.mem_take_iff_getElem.2 ⟨i, by omega, rfl⟩
    have : twiceB l = true := by
     unfold twiceB
     rw [Bool.not_eq_true', decide_eq_false_iff_not]
     exact fun h => (hnt.1 (nodup_of_take h)).2 hm
    exact ⟨by rw [this]; rfl, H.below⟩
   refine Y.k <| Y.r <| Y.a rfl <| Y.v (Y.p rfl rfl) <| Y.b rfl <| Y.z ?_
   have he : ¬ l[i] = l[j] := by simpa using hc7
   refine ⟨Y.ag, k2 - 1, by omega, i + 1, by omega, rfl, H, ?_⟩
   rw [List.take_succ_eq_append_getElem hil]
   simp only [List.mem_append, List.mem_singleton, not_or]
   exact ⟨hno, fun h => he h.symm⟩
  refine WP.exit <| XB.hit <| Y.r <| Y.a rfl <| Y.v (Y.p rfl rfl) <| Y.b rfl <| Y.z ?_
  have hij : i = j := by simp at hc5; omega
  subst hij
  exact ⟨Y.ag, k - 1, by omega, i + 1, by omega, rfl, H, hnt.2 ⟨hall, hno⟩⟩
 refine WP.exit <| XB.hit <| Y.qr <| Y.v (Ev.asB rfl) <| Y.z ?_
 refine WP.ret ⟨_, rfl, ?_⟩
 have hj : j = l.length := by simp at hc2; omega
 rw [hj, List.take_length] at hall
 exact ⟨by simp only [twiceB, hall, decide_true]; rfl, H.below⟩
end Go.Proofs.YtgcokllbophkkaaGreat
namespace Go.Proofs.YtgcokllbophkkaaGreat
open Go Go.W Go.RowKit
theorem truckErr1_0 {n : Int} {t : Truck} (h : truckErr1 n t = 0) : truckBad n t = false ∧ truckRange t = false := by
 unfold truckErr1 at h
 split at h
 ·cases h
 ·split at h
  ·cases h
  ·rename_i h1 h2; exact ⟨by simpa using h1, by simpa using h2⟩
theorem needErr1_0 {n : Int} {t : Need} (h : needErr1 n t = 0) : needBad n t = false ∧ needRange t = false := by
 unfold needErr1 at h
 split at h
 ·cases h
 ·split at h
  ·cases h
  ·rename_i h1 h2; exact ⟨by simpa using h1, by simpa using h2⟩
theorem trucksErr_at {n : Int} {l : List Truck} {j : Nat} (hj : j < l.length) (h : ∀ i (hi : i < l.length), i < j → truckBad n l[i] = false ∧ truckRange l[i] = false) (he : truckErr1 n l[j] ≠ 0) : trucksErr n l = truckErr1 n l[j] := by
 rw [trucksErr_drop (by omega) h, List.drop_eq_getElem_cons hj, trucksErr]
 unfold truckErr1 at he ⊢
 split
 ·rfl
 ·rename_i h1
  rw [if_neg h1] at he
  split
  ·rfl
  ·rename_i h2; rw [if_neg h2] at he; exact absurd rfl he
theorem needsErr_at {n : Int} {l : List Need} {j : Nat} (hj : j < l.length) (h : ∀ i (hi : i < l.length), i < j → needBad n l[i] = false ∧ needRange l[i] = false) (he : needErr1 n l[j] ≠ 0) : needsErr n l = needErr1 n l[j] := by
 rw [needsErr_drop (by omega) h, List.drop_eq_getElem_cons hj, needsErr]
 unfold needErr1 at he ⊢
 split
 ·rfl
 ·rename_i h1
  rw [if_neg h1] at he
  split
  ·rfl
  ·rename_i h2; rw [if_neg h2] at he; exact absurd rfl he
theorem r42Check (n hd : Int) (A B C : Option Addr) (l : List Edg) (ts : List Truck) (ns : List Need) (ca cb cc : Nat) (w0 : World) (hz : EdgsAt w0 A l) (ht : RowsAt 4 truckCells w0 B ts) (hn : RowsAt 2 needCells w0 C ns) :
  Calls Tryz.prog 31 #[.agg #[I n, .slice A l.length ca, .slice B ts.length cb, .slice C ns.length cc, I hd]] w0 fun e w' => e = .returned (I (nightErr n l ts ns hd)) ∧ Below w0.heap.size w0 w' := by
 have H := SH.refl w0
 refine Calls.ofWP Tryz.func31 rfl Tryz.results31 Tryz.ntmps31 rfl <| Y.qr <| Y.bx (cA rfl) H ?_
 clear H; intro g1 w H
 refine Y.b rfl <| Y.z <| Y.q <| Y.qr <| Y.fa rfl rfl <| Y.v (Ev.loadN [_, _] (agg_run rfl) (size_run rfl) rfl ⟨H.ldL 0 rfl _ rfl, H.ldL 0 rfl _ rfl, trivial⟩) <| OPS.call (d := some 12) rfl rfl rfl (EvC.func (fun_run rfl)) (r8Check n A l ca w (hz.sh H)) ?_
 rintro _ w ⟨rfl, hb⟩
 refine ⟨_, rfl, ?_⟩
 replace H := H.toBelow hb; clear hb
 refine Y.b rfl <| Y.z <| Y.qr <| Y.a rfl <| Y.v (Ev.neq rfl rfl) <| Y.z ?_
 refine WP.cond rfl (fun hc2 => ?_) (fun hc2 => ?_)
 ·refine Y.qr <| Y.a rfl <| Y.b rfl <| Y.z ?_
  refine WP.ret ⟨_, rfl, ?_⟩
  have h : roadErr n l ≠ 0 := by simpa using hc2
  exact ⟨by rw [nightErr, if_pos h]; rfl, H.below⟩
 have h0 : roadErr n l = 0 := by simpa using hc2
 refine Y.k <| Y.q <| Y.qr <| Y.fa rfl rfl <| Y.j H 0 rfl rfl rfl <| Y.v (Y.n rfl) <| Y.v (Ev.gtr rfl rfl) <| Y.v (Ev.mvB rfl) <| Y.g rfl rfl (fun hg => Y.f rfl rfl) <| Y.y rfl rfl H 0 (fun hg => gvE hg rfl) rfl rfl <| Y.g rfl rfl (fun hg => Ev.len (el_run rfl) (gvE hg rfl)) <| Y.g rfl rfl (fun hg => Ev.gtr (gvE hg rfl) rfl) <| Y.v (Ev.pickOr rfl rfl rfl) <| Y.z ?_
 refine WP.cond rfl (fun hc4 => ?_) (fun hc4 => ?_)
 ·refine Y.qr <| Y.b rfl <| Y.z ?_
  refine WP.ret ⟨_, rfl, ?_⟩
  exact ⟨by rw [nightErr, if_neg (by simp [h0]), if_pos (show fullB ts ns = true by simpa [fullB] using hc4)]; rfl, H.below⟩
 have hfu : fullB ts ns = false := by simpa [fullB] using hc4
 have hlt8 : ts.length ≤ 8 ∧ ns.length ≤ 16 := by simp at hc4; omega
 have e0 : nightErr n l ts ns hd = if trucksErr n ts ≠ 0 then trucksErr n ts else if needsErr n ns ≠ 0 then needsErr n ns else if needTwice ns = true then 6 else if inB hd 0 3600 = true then 0 else 1 := by rw [nightErr, if_neg (by simp [h0]), if_neg (by simp [hfu])]
 refine Y.k <| Y.q <| Y.qr <| Y.b rfl <| Y.z <| WP.block <| WP.loop [2, 4, 5, 26, 27, 28, 29, 30, 31, 32, 33, 34, 35, 36, 37, 38, 39, 40, 41, 42] (fun k e w' => ∃ j : Nat, j + k = ts.length ∧ e 4 = I j ∧ SH w0 [] w' [⟨g1, 28, [I n, .slice A l.length ca, .slice B ts.length cb, .slice C ns.length cc, I hd]⟩] ∧ ∀ i (hi : i < ts.length), i < j → truckBad n ts[i] = false ∧ truckRange ts[i] = false) (ts.length) (⟨0, by omega, rfl, H, fun i _ hi => absurd hi (by omega)⟩) ?_
 clear H
 rintro k u w ⟨j, hk, h4', H, hall⟩
 refine WP.know (t := 4) h4' <| Y.q <| Y.qr <| Y.a rfl <| Y.fa rfl rfl <| Y.j H 0 rfl rfl rfl <| Y.v (Y.n rfl) <| Y.v (Ev.lss rfl rfl) <| Y.z ?_
 refine WP.cond rfl (fun hc7 => ?_) (fun hc7 => ?_)
 ·have hlt : j < ts.length := by simpa using hc7
  obtain ⟨b, o, rfl, hc⟩ := ht j hlt
  refine Y.k <| Y.q <| WP.block <| Y.q <| WP.rquiet mixed (by kernel_rfl) H ?_
  clear H; intro w hbw9 H
  refine Y.v (Y.o H 0 rfl rfl) <| Y.fa rfl rfl <| Y.j H 0 rfl rfl rfl <| Y.a rfl <| Y.v (Y.X rfl rfl rfl rfl rfl) ?_
  have hc' := cellsAt_sh H hc
  refine Y.v (by (change Ev _ _ _ _ (Op.load 81 (Operand.tmp 37)) _; exact Ev.loadN (truckCells ts[j]) (agg_run rfl) (size_run rfl) rfl hc')) ?_
  refine OPS.callq rfl rfl rfl (EvC.conv (EvC.func (fun_run rfl)) (l2 rfl rfl)) (v := I (truckErr1 n ts[j])) (fun w2 hb2 => r42Truck n hd A (some ⟨b, o, none⟩) C l.length ts.length ns.length ca cb cc ts[j] w2) ?_
  refine Y.b rfl <| OPS.nilq H ?_
  clear H; intro w hbx9 H
  refine Y.qr <| Y.a rfl <| Y.v (Ev.neq rfl rfl) <| Y.z ?_
  refine WP.cond rfl (fun hc10 => ?_) (fun hc10 => ?_)
  ·refine Y.qr <| Y.a rfl <| Y.b rfl <| Y.z ?_
   refine WP.ret ⟨_, rfl, ?_⟩
   have hne : truckErr1 n ts[j] ≠ 0 := by simpa using hc10
   have he := trucksErr_at hlt hall hne
   exact ⟨by rw [e0, if_pos (by rw [he]; exact hne), he]; rfl, H.below⟩
  refine Y.k <| Y.r <| Y.a rfl <| Y.v (Y.p rfl rfl) <| Y.b rfl <| Y.z ?_
  refine ⟨Y.ag, k - 1, by omega, j + 1, by omega, rfl, H, fun i hi hij => ?_⟩
  rcases Nat.lt_succ_iff_lt_or_eq.1 hij with h | rfl
  ·exact hall i hi h
  ·exact truckErr1_0 (by simpa using hc10)
 have hj : j = ts.length := by simp at hc7; omega
 subst hj
 have ht0 : trucksErr n ts = 0 := by rw [trucksErr_drop (by omega) hall]; simp [trucksErr]
 clear hall
 refine WP.exit <| XB.hit <| Y.q <| Y.qr <| Y.b rfl <| Y.z <| WP.block <| WP.loop [2, 6, 7, 43, 44, 45, 46, 47, 48, 49, 50, 51, 52, 53, 54, 55, 56, 57, 58, 59] (fun k e w' => ∃ j : Nat, j + k = ns.length ∧ e 6 = I j ∧ SH w0 [] w' [⟨g1, 28, [I n, .slice A l.length ca, .slice B ts.length cb, .slice C ns.length cc, I hd]⟩] ∧ ∀ i (hi : i < ns.length), i < j → needBad n ns[i] = false ∧ needRange ns[i] = false) (ns.length) (⟨0, by omega, rfl, H, fun i _ hi => absurd hi (by omega)⟩) ?_
 clear H
 rintro k u w ⟨j, hk, h6', H, hall⟩
 refine WP.know (t := 6) h6' <| Y.q <| Y.qr <| Y.a rfl <| Y.fa rfl rfl <| Y.j H 0 rfl rfl rfl <| Y.v (Y.n rfl) <| Y.v (Ev.lss rfl rfl) <| Y.z ?_
 refine WP.cond rfl (fun hc13 => ?_) (fun hc13 => ?_)
 ·have hlt : j < ns.length := by simpa using hc13
  obtain ⟨b, o, rfl, hc⟩ := hn j hlt
  refine Y.k <| Y.q <| WP.block <| Y.q <| WP.rquiet mixed (by kernel_rfl) H ?_
  clear H; intro w hbw15 H
  refine Y.v (Y.o H 0 rfl rfl) <| Y.fa rfl rfl <| Y.j H 0 rfl rfl rfl <| Y.a rfl <| Y.v (Y.X rfl rfl rfl rfl rfl) ?_
  have hc' := cellsAt_sh H hc
  refine Y.v (by (change Ev _ _ _ _ (Op.load 68 (Operand.tmp 54)) _; exact Ev.loadN (needCells ns[j]) (agg_run rfl) (size_run rfl) rfl hc')) ?_
  refine OPS.callq rfl rfl rfl (EvC.conv (EvC.func (fun_run rfl)) (l2 rfl rfl)) (v := I (needErr1 n ns[j])) (fun w2 hb2 => r42Need n hd A B (some ⟨b, o, none⟩) l.length ts.length ns.length ca cb cc ns[j] w2) ?_
  refine Y.b rfl <| OPS.nilq H ?_
  clear H; intro w hbx15 H
  refine Y.qr <| Y.a rfl <| Y.v (Ev.neq rfl rfl) <| Y.z ?_
  refine WP.cond rfl (fun hc16 => ?_) (fun hc16 => ?_)
  ·refine Y.qr <| Y.a rfl <| Y.b rfl <| Y.z ?_
   refine WP.ret ⟨_, rfl, ?_⟩
   have hne : needErr1 n ns[j] ≠ 0 := by simpa using hc16
   have he := needsErr_at hlt hall hne
   exact ⟨by rw [e0, if_neg (by rw [ht0]; simp), if_pos (by rw [he]; exact hne), he]; rfl, H.below⟩
  refine Y.k <| Y.r <| Y.a rfl <| Y.v (Y.p rfl rfl) <| Y.b rfl <| Y.z ?_
  refine ⟨Y.ag, k - 1, by omega, j + 1, by omega, rfl, H, fun i hi hij => ?_⟩
  rcases Nat.lt_succ_iff_lt_or_eq.1 hij with h | rfl
  ·exact hall i hi h
  ·exact needErr1_0 (by simpa using hc16)
 have hj : j = ns.length := by simp at hc13; omega
 subst hj
 have hn0 : needsErr n ns = 0 := by rw [needsErr_drop (by omega) hall]; simp [needsErr]
 clear hall
 refine WP.exit <| XB.hit <| Y.q <| Y.qr <| Y.b rfl <| Y.z <| WP.block <| WP.loop [2, 8, 9, 60, 61, 62, 63, 64, 65, 66, 67, 68, 69, 70, 71, 72, 73, 74, 75, 76, 77, 78, 79, 80, 81, 82, 83, 84] (fun k e w' => ∃ j : Nat, j + k = ns.length ∧ e 8 = I j ∧ SH w0 [] w' [⟨g1, 28, [I n, .slice A l.length ca, .slice B ts.length cb, .slice C ns.length cc, I hd]⟩] ∧ ((ns.map (·.node)).take j).Nodup) (ns.length) (⟨0, by omega, rfl, H, by simp⟩) ?_
 clear H
 rintro k u w ⟨j, hk, h8', H, hall⟩
 refine WP.know (t := 8) h8' <| Y.q <| Y.qr <| Y.a rfl <| Y.fa rfl rfl <| Y.j H 0 rfl rfl rfl <| Y.v (Y.n rfl) <| Y.v (Ev.lss rfl rfl) <| Y.z ?_
 refine WP.cond rfl (fun hc19 => ?_) (fun hc19 => ?_)
 ·have hlt : j < ns.length := by simpa using hc19
  obtain ⟨b, o, rfl, hc⟩ := hn j hlt
  have hcj : w0.cell? ⟨b, o + j * 2, none⟩ = some (I ns[j].node) := hc.1
  have hmj : j < (ns.map (·.node)).length := by simpa using hlt
  have hnt := nodup_take_succ (l := ns.map (·.node)) hmj
  refine Y.k <| Y.q <| WP.block <| Y.qr <| Y.b rfl <| Y.z <| WP.block <| WP.loop [2, 9, 67, 68, 69, 70, 71, 72, 73, 74, 75, 76, 77, 78, 79, 80, 81, 82, 83, 84] (fun k2 e w' => ∃ i : Nat, i + k2 = j ∧ e 9 = I i ∧ SH w0 [] w' [⟨g1, 28, [I n, .slice A l.length ca, .slice B ts.length cb, .slice (some ⟨b, o, none⟩) ns.length cc, I hd]⟩] ∧ (ns.map (·.node))[j] ∉ (ns.map (·.node)).take i) (j) (⟨0, by omega, rfl, H, by simp⟩) ?_
  clear H
  rintro k2 u2 w ⟨i, hk2, h9', H, hno⟩
  refine WP.know (t := 9) h9' <| Y.q <| Y.qr <| Y.a rfl <| Y.a rfl <| Y.v (Ev.lss rfl rfl) <| Y.z ?_
  refine WP.cond rfl (fun hc22 => ?_) (fun hc22 => ?_)
  ·have hij : i < j := by simpa using hc22
   have hil : i < ns.length := by omega
   have hmi : i < (ns.map (·.node)).length := by simpa using hil
   have hci : w0.cell? ⟨b, o + i * 2, none⟩ = some (I ns[i].node) := by
    obtain ⟨b', o', he, hx⟩ := hn i hil
    cases he; exact hx.1
   refine Y.k <| Y.q <| WP.block <| Y.q <| WP.rstill mixed (by kernel_rfl) H ?_
   clear H; intro w hbw24 H
   refine Y.fa rfl rfl <| Y.j H 0 rfl rfl rfl <| Y.a rfl <| Y.v (Y.X rfl rfl rfl rfl rfl) <| Y.fa rfl rfl <| Y.v (Y.c (H.ld0 (by assumption)) rfl) ?_
   refine Y.fa rfl rfl <| Y.j H 0 rfl rfl rfl <| Y.a rfl <| Y.v (Y.X rfl rfl rfl rfl rfl) <| Y.fa rfl rfl <| Y.v (Y.c (H.ld0 (by assumption)) rfl) ?_
   refine Y.v (Ev.eql rfl rfl) <| OPS.nil_s ?_
   refine WP.cond rfl (fun hc24 => ?_) (fun hc24 => ?_)
   ·refine Y.qr <| Y.b rfl <| Y.z ?_
    refine WP.ret ⟨_, rfl, ?_⟩
    have he : ns[i].node = ns[j].node := by simpa using hc24
    have hm : (ns.map (·.node))[j] ∈ (ns.map (·.node)).take j := by
     rw [show (ns.map (·.node))[j] = (ns.map (·.node))[i] by simp [he]]
     exact List.mem_take_iff_getElem.2 ⟨i, by omega, rfl⟩
    have : needTwice ns = true := by
     unfold needTwice twiceB
     rw [Bool.not_eq_true', decide_eq_false_iff_not]
     exact fun h => (hnt.1 (nodup_of_take h)).2 hm
    exact ⟨by rw [e0, ht0, hn0, this]; rfl, H.below⟩
   refine Y.k <| Y.r <| Y.a rfl <| Y.v (Y.p rfl rfl) <| Y.b rfl <| Y.z ?_
   have he : ¬ ns[i].node = ns[j].node := by simpa using hc24
   refine ⟨Y.ag, k2 - 1, by omega, i + 1, by omega, rfl, H, ?_⟩
   rw [List.take_succ_eq_append_getElem hmi]
   simp only [List.mem_append, List.mem_singleton, not_or]
   exact ⟨hno, fun h => he (by simpa using h.symm)⟩
  refine WP.exit <| XB.hit <| Y.r <| Y.a rfl <| Y.v (Y.p rfl rfl) <| Y.b rfl <| Y.z ?_
  have hij : i = j := by simp at hc22; omega
  subst hij
  exact ⟨Y.ag, k - 1, by omega, i + 1, by omega, rfl, H, hnt.2 ⟨hall, hno⟩⟩
 have hj : j = ns.length := by simp at hc19; omega
 have hnd : needTwice ns = false := by
  rw [hj, show ns.length = (ns.map (·.node)).length by simp, List.take_length] at hall
  simp only [needTwice, twiceB, hall, decide_true]; rfl
 have e1 : nightErr n l ts ns hd = if inB hd 0 3600 = true then 0 else 1 := by rw [e0, ht0, hn0, hnd]; simp
 refine WP.exit <| XB.hit <| Y.q <| Y.qr <| Y.fa rfl rfl <| Y.j H 0 rfl rfl rfl <| Y.v (Ev.lss rfl rfl) <| Y.v (Ev.mvB rfl) <| Y.g rfl rfl (fun hg => Y.f rfl rfl) <| Y.y rfl rfl H 0 (fun hg => gvE hg rfl) rfl rfl <| Y.g rfl rfl (fun hg => Ev.gtr (gvE hg rfl) rfl) <| Y.v (Ev.pickOr rfl rfl rfl) <| Y.z ?_
 refine WP.cond rfl (fun hc26 => ?_) (fun hc26 => ?_)
 ·refine Y.qr <| Y.b rfl <| Y.z ?_
  refine WP.ret ⟨_, rfl, ?_⟩
  exact ⟨by rw [e1, if_neg (by simp at hc26; simp [inB]; omega)]; rfl, H.below⟩
 refine Y.k <| Y.qr <| Y.b rfl <| Y.z ?_
 refine WP.ret ⟨_, rfl, ?_⟩
 exact ⟨by rw [e1, if_pos (by simp at hc26; simp [inB]; omega)]; rfl, H.below⟩
end Go.Proofs.YtgcokllbophkkaaGreat
namespace Go.Proofs.YtgcokllbophkkaaGreat
open Go Go.W Go.RowKit
theorem r42Names (n hd rt : Int) (A B C R : Option Addr) (ll : Nat) (ts : List Truck) (ns : List Need) (rn : List Int) (ca cb cc cr : Nat) (w0 : World) (hr : IntsAt w0 R rn) (hrl : rn.length ≤ maxLen) (htl : ts.length ≤ 8) (hnl : ns.length ≤ 16) :
  Calls Tryz.prog 90 #[.agg #[I n, .slice A ll ca, .slice B ts.length cb, .slice C ns.length cc, I hd], .agg #[I rt, .slice R rn.length cr]] w0 fun e w' => e = .returned (I (routeErr ts ns rt rn)) ∧ Below w0.heap.size w0 w' := by
 have H := SH.refl w0
 have hl' : rn.length ≤ 9223372036854775807 := by unfold maxLen at hrl; omega
 refine Calls.ofWP Tryz.func90 rfl Tryz.results90 Tryz.ntmps90 rfl <| Y.qr <| Y.bx (cA rfl) H ?_
 clear H; intro g2 w H
 refine Y.bx (cA rfl) H ?_
 clear H; intro g3 w H
 refine Y.b rfl <| Y.z <| Y.q <| Y.qr <| Y.fa rfl rfl <| Y.j H 0 rfl rfl rfl <| Y.v (Ev.lss rfl rfl) <| Y.v (Ev.mvB rfl) <| Y.g rfl rfl (fun hg => Y.f rfl rfl) <| Y.y rfl rfl H 0 (fun hg => gvE hg rfl) rfl rfl <| Y.g rfl rfl (fun hg => Y.f rfl rfl) <| Y.y rfl rfl H 1 (fun hg => gvE hg rfl) rfl rfl <| Y.g rfl rfl (fun hg => Ev.len (el_run rfl) (gvE hg rfl)) <| Y.g rfl rfl (fun hg => Ev.geq (gvE hg rfl) (gvE hg rfl)) <| Y.v (Ev.pickOr rfl rfl rfl) <| Y.z ?_
 refine WP.cond rfl (fun hc1 => ?_) (fun hc1 => ?_)
 ·refine Y.qr <| Y.b rfl <| Y.z ?_
  refine WP.ret ⟨_, rfl, ?_⟩
  have h : outB ts.length rt = true := by
   simp at hc1
   simp [outB, inB]
   omega
  exact ⟨by rw [routeErr, if_pos (Or.inl h)]; rfl, H.below⟩
 have h1 : ¬ outB ts.length rt = true := by
  simp at hc1
  simp [outB, inB]
  omega
 refine Y.k <| Y.q <| Y.qr <| Y.b rfl <| Y.z <| WP.block <| WP.loop [4, 5, 17, 18, 19, 20, 21, 22, 23, 24, 25, 26, 27, 28, 29, 30, 31, 32, 33, 34, 35, 36, 37, 38, 39, 40] (fun k e w' => ∃ j : Nat, j + k = rn.length ∧ e 5 = I j ∧ SH w0 [] w' [⟨g3, 49, [I rt, .slice R rn.length cr]⟩, ⟨g2, 28, [I n, .slice A ll ca, .slice B ts.length cb, .slice C ns.length cc, I hd]⟩] ∧ ∀ i (hi : i < rn.length), i < j → outB ns.length rn[i] = false) (rn.length) (⟨0, by omega, rfl, H, fun i _ hi => absurd hi (by omega)⟩) ?_
 clear H
 rintro k u w ⟨j, hk, h5, H, hall⟩
 refine WP.know (t := 5) h5 <| Y.q <| Y.qr <| Y.a rfl <| Y.fa rfl rfl <| Y.j H 0 rfl rfl rfl <| Y.v (Y.n rfl) <| Y.v (Ev.lss rfl rfl) <| Y.z ?_
 refine WP.cond rfl (fun hc4 => ?_) (fun hc4 => ?_)
 ·have hlt : j < rn.length := by simpa using hc4
  obtain ⟨b, o, rfl, hx⟩ := hr j hlt
  refine Y.k <| Y.q <| WP.block <| Y.q <| WP.rstill mixed (by kernel_rfl) H ?_
  clear H; intro w hbw6 H
  refine Y.fa rfl rfl <| Y.j H 0 rfl rfl rfl <| Y.a rfl <| Y.v (Y.x rfl rfl rfl rfl) <| Y.v (Y.c (H.ld0 (by assumption)) rfl) ?_
  refine Y.v (Ev.lss rfl rfl) <| Y.v (Ev.mvB rfl) <| Y.g rfl rfl (fun hg => Y.f rfl rfl) <| Y.y rfl rfl H 0 (fun hg => gvE hg rfl) rfl rfl <| Y.g rfl rfl (fun hg => Y.m rfl) <| Y.g rfl rfl (fun hg => Ev.indexAddr1 (el_run rfl) (size_run rfl) (gvE hg rfl) (gvE hg rfl) rfl (by omega)) <| Y.g rfl rfl (fun hg => Ev.load1 (agg_run rfl) (gvE hg rfl) (H.ld0 (by assumption))) ?_
  refine Y.g rfl rfl (fun hg => Y.f rfl rfl) <| Y.y rfl rfl H 1 (fun hg => gvE hg rfl) rfl rfl <| Y.g rfl rfl (fun hg => Ev.len (el_run rfl) (gvE hg rfl)) <| Y.g rfl rfl (fun hg => Ev.geq (gvE hg rfl) (gvE hg rfl)) <| Y.v (Ev.pickOr rfl rfl rfl) <| OPS.nil_s ?_
  refine WP.cond rfl (fun hc6 => ?_) (fun hc6 => ?_)
  ·refine Y.qr <| Y.b rfl <| Y.z ?_
   refine WP.ret ⟨_, rfl, ?_⟩
   have h : outB ns.length rn[j] = true := by
    simp at hc6
    simp [outB, inB]
    omega
   exact ⟨by rw [routeErr, if_pos (Or.inr (List.any_eq_true.2 ⟨rn[j], List.getElem_mem hlt, h⟩))]; rfl, H.below⟩
  refine Y.k <| Y.r <| Y.a rfl <| Y.v (Y.p rfl rfl) <| Y.b rfl <| Y.z ?_
  have h : outB ns.length rn[j] = false := by
   simp at hc6
   simp [outB, inB]
   omega
  refine ⟨Y.ag, k - 1, by omega, j + 1, by omega, rfl, H, fun i hi hij => ?_⟩
  rcases Nat.lt_succ_iff_lt_or_eq.1 hij with h' | rfl
  ·exact hall i hi h'
  ·exact h
 have hj : j = rn.length := by simp at hc4; omega
 have h2 : ¬ (outB ts.length rt = true ∨ rn.any (outB ns.length) = true) := by
  rintro (h | h)
  ·exact h1 h
  ·obtain ⟨x, hx, he⟩ := List.any_eq_true.1 h
   obtain ⟨i, hi, rfl⟩ := List.mem_iff_getElem.1 hx
   rw [hall i hi (by omega)] at he; cases he
 refine WP.exit <| XB.hit <| Y.q <| Y.qr <| Y.fa rfl rfl <| Y.j H 0 rfl rfl rfl <| OPS.call (d := some 43) rfl rfl rfl (EvC.func (fun_run rfl)) (r42Twice R rn cr w (hr.sh H) hrl) ?_
 rintro _ w ⟨rfl, hb⟩
 refine ⟨_, rfl, ?_⟩
 replace H := H.toBelow hb; clear hb
 refine Y.z ?_
 refine WP.cond rfl (fun hc8 => ?_) (fun hc8 => ?_)
 ·refine Y.qr <| Y.b rfl <| Y.z ?_
  refine WP.ret ⟨_, rfl, ?_⟩
  exact ⟨by rw [routeErr, if_neg h2, if_pos hc8]; rfl, H.below⟩
 refine Y.k <| Y.qr <| Y.b rfl <| Y.z ?_
 refine WP.ret ⟨_, rfl, ?_⟩
 exact ⟨by rw [routeErr, if_neg h2, if_neg (by simpa using hc8)]; rfl, H.below⟩
end Go.Proofs.YtgcokllbophkkaaGreat
