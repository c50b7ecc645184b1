/-
  Walk: read (the task of a night).
-/
import Derived.Test.YtgjfjbphngamgaaRM4
import Derived.Test.YtgjfjbphngamgaaFT14
import Derived.Test.YtgjfjbphngamgaaBM1
set_option linter.all false
namespace Go.Proofs.Ytgjfjbphngamgaa
open Go Go.W Go.RowKit

def colN (ns : List Need) : List Need := ns.filter fun x => decide (0 < x.move)
def briN (ns : List Need) : List Need := ns.filter fun x => !decide (0 < x.move)
def movC (ns : List Need) : List Int := (colN ns).map (·.move)
def movD (ns : List Need) : List Int := (briN ns).map fun x => -x.move
def capL (ts : List Truck) : Int := ts.foldl (fun c t => if c < t.cap then t.cap else c) 0
noncomputable def timL (m : Nat) (l : List Edg) (ns : List Need) : List (List Int) := (colN ns).map fun x => (briN ns).map fun y => roadT m l x.node.toNat y.node.toNat
def slV (r : SlA Int) : Value := .slice r.A r.l.length r.cap
/-- a task, as it lies in memory -/
structure TaskAt (w : World) (Ac Ab At : Option Addr) (cs bs : List Need) (rs : List (SlA Int)) : Prop where
  c : RowsAt 2 needCells w Ac cs
  b : RowsAt 2 needCells w Ab bs
  t : OnesAt slV w At rs
  r : ∀ r ∈ rs, IntsAt w r.A r.l
theorem TaskAt.below {w w' : World} {Ac Ab At : Option Addr} {cs bs : List Need} {rs : List (SlA Int)} (h : TaskAt w Ac Ab At cs bs rs) (hb : Below w.heap.size w w') : TaskAt w' Ac Ab At cs bs rs :=
  ⟨h.c.below hb, h.b.below hb, h.t.below hb, fun r hr => (h.r r hr).below hb⟩
/-- what every world says that holds these blocks -/
def Reads (L : List Blk) (P : World → Prop) : Prop := ∀ (w0 : World) (S : List Nat) (w : World), SH w0 S w L → P w
theorem Reads.at {L L' : List Blk} {P : World → Prop} (h : Reads L P) {w0 w : World} {S : List Nat} (H : SH w0 S w L') (hs : L.Sublist L') : P w := h _ _ _ (H.drop hs)
/-- rows that lie in blocks of the list -/
def RowsIn (rs : List (SlA Int)) (L : List Blk) : Prop := ∀ r ∈ rs, (r.A = none ∧ r.l = []) ∨ ∃ g sp, r.A = some ⟨g, 0, none⟩ ∧ (⟨g, 3, r.l.map I ++ sp⟩ : Blk) ∈ L
theorem RowsIn.mono {rs : List (SlA Int)} {L L' : List Blk} (h : RowsIn rs L) (hs : ∀ b ∈ L, b ∈ L') : RowsIn rs L' := fun r hr => by
  rcases h r hr with h1 | ⟨g, sp, h1, h2⟩
  · exact .inl h1
  · exact .inr ⟨g, sp, h1, hs _ h2⟩
theorem RowsIn.ints {rs : List (SlA Int)} {L : List Blk} {w0 w : World} {S : List Nat} (h : RowsIn rs L) (H : SH w0 S w L) : ∀ r ∈ rs, IntsAt w r.A r.l := fun r hr => by
  rcases h r hr with ⟨h1, h2⟩ | ⟨g, sp, h1, h2⟩
  · rw [h1, h2]; exact OnesAt.nil
  · obtain ⟨i, hi⟩ := List.getElem?_of_mem h2
    rw [h1]
    exact OnesAt.own (b := ⟨g, 3, r.l.map I ++ sp⟩) H i hi rfl
theorem OwnS.rowIn {A : Option Addr} {cap n : Nat} {l : List Int} {Lo : List Blk} (h : OwnS A cap n (l.map I) 3 1 Lo) : (A = none ∧ l = []) ∨ ∃ g sp, A = some ⟨g, 0, none⟩ ∧ (⟨g, 3, l.map I ++ sp⟩ : Blk) ∈ Lo := by
  have hl := h.len
  rcases h.form with ⟨h1, h2, _, _⟩ | ⟨g, sp, h1, h2, _⟩
  · refine .inl ⟨h1, ?_⟩
    rw [h2] at hl
    exact List.length_eq_zero_iff.1 (by simpa using hl)
  · exact .inr ⟨g, sp, h1, by rw [h2]; simp⟩
theorem capL_take {ts : List Truck} {j : Nat} (h : j < ts.length) : capL (ts.take (j + 1)) = if capL (ts.take j) < ts[j].cap then ts[j].cap else capL (ts.take j) := by
  unfold capL; rw [List.take_succ_eq_append_getElem h, List.foldl_append]; rfl
theorem filt_take {α : Type} {p : α → Bool} {l : List α} {j : Nat} (h : j < l.length) : (l.take (j + 1)).filter p = (l.take j).filter p ++ if p l[j] = true then [l[j]] else [] := by
  rw [List.take_succ_eq_append_getElem h, List.filter_append]
  by_cases hp : p l[j] = true <;> simp [hp]
theorem filt_len {α : Type} {p : α → Bool} {l : List α} {j : Nat} : ((l.take j).filter p).length ≤ l.length := Nat.le_trans (List.length_filter_le _ _) (List.length_take_le' _ _)
theorem needs_one (l : List Need) : ((l.flatMap needCells).all (·.oneCell')) = true := by
  rw [List.all_eq_true]
  intro v hv
  obtain ⟨x, _, hx⟩ := List.mem_flatMap.1 hv
  simp [needCells] at hx
  rcases hx with rfl | rfl <;> rfl
theorem sum_bd {l : List Int} {c : Int} (h : ∀ x ∈ l, 0 ≤ x ∧ x ≤ c) : 0 ≤ l.sum ∧ l.sum ≤ c * l.length := by
  induction l with
  | nil => simp
  | cons a l ih =>
    have := ih fun x hx => h x (List.mem_cons_of_mem _ hx)
    have := h a (by simp)
    simp only [List.sum_cons, List.length_cons]
    rw [show c * ((l.length + 1 : Nat) : Int) = c * l.length + c by rw [Int.natCast_add, Int.mul_add]; simp]
    omega
theorem pm1 {a b c d e : Blk} {Lc Lb : List Blk} : (a :: b :: ([c, d, e] ++ (Lc ++ Lb))).Perm (([a, b, c, d, e] ++ Lb) ++ Lc) := perm_by fun f => by simp <;> omega
theorem pm2 {a b c d e : Blk} {Lc Lb : List Blk} : (a :: b :: ([c, d, e] ++ (Lc ++ Lb))).Perm (([a, b, c, d, e] ++ Lc) ++ Lb) := perm_by fun f => by simp <;> omega
theorem pm3 {a b c d e : Blk} {Lc Lb : List Blk} {w0 w : World} (h : SH w0 [] w (a :: b :: c :: d :: e :: (Lb ++ Lc))) : SH w0 [] w ([c, d, e] ++ (Lc ++ Lb)) :=
  (h.drop (((List.Sublist.refl _).cons _).cons _)).perm (perm_by fun f => by simp <;> omega)
theorem pm4 {a b c d e : Blk} {Lc Lb : List Blk} {w0 w : World} (h : SH w0 [] w (a :: b :: c :: d :: e :: (Lc ++ Lb))) : SH w0 [] w ([c, d, e] ++ (Lc ++ Lb)) :=
  h.drop (((List.Sublist.refl _).cons _).cons _)
theorem one2 {a b : Blk} {X : List Blk} : ([b] : List Blk).Sublist (a :: b :: X) := List.Sublist.cons _ (List.Sublist.cons_cons _ (List.nil_sublist _))
theorem movC_bd {m : Nat} {l : List Edg} {ts : List Truck} {ns : List Need} {hd : Int} (hK : NightOk m l ts ns hd) (j : Nat) : 0 ≤ (movC (ns.take j)).sum ∧ (movC (ns.take j)).sum ≤ 512 := by
  have h := sum_bd (l := movC (ns.take j)) (c := 32) fun x hx => by
    obtain ⟨y, hy, rfl⟩ := List.mem_map.1 hx
    obtain ⟨h1, h2⟩ := List.mem_filter.1 hy
    have := hK.nd y (List.mem_of_mem_take h1)
    simp at h2; omega
  have h2 : (movC (ns.take j)).length ≤ ns.length := by unfold movC colN; rw [List.length_map]; exact filt_len
  have := hK.nl
  omega
theorem movD_bd {m : Nat} {l : List Edg} {ts : List Truck} {ns : List Need} {hd : Int} (hK : NightOk m l ts ns hd) (j : Nat) : 0 ≤ (movD (ns.take j)).sum ∧ (movD (ns.take j)).sum ≤ 512 := by
  have h := sum_bd (l := movD (ns.take j)) (c := 32) fun x hx => by
    obtain ⟨y, hy, rfl⟩ := List.mem_map.1 hx
    obtain ⟨h1, h2⟩ := List.mem_filter.1 hy
    have := hK.nd y (List.mem_of_mem_take h1)
    simp at h2; omega
  have h2 : (movD (ns.take j)).length ≤ ns.length := by unfold movD briN; rw [List.length_map]; exact filt_len
  have := hK.nl
  omega
theorem colN_len (ns : List Need) (j : Nat) : (colN (ns.take j)).length ≤ ns.length := filt_len
theorem briN_len (ns : List Need) (j : Nat) : (briN (ns.take j)).length ≤ ns.length := filt_len
theorem fin1 {a b c d e : Blk} {X Y Z : List Blk} {w0 w : World} (h : SH w0 [] w (a :: b :: c :: d :: e :: (X ++ Y ++ Z))) : SH w0 [] w ([c, d, e] ++ X ++ Z) := by
  refine h.drop ?_
  rw [List.append_assoc]
  refine ((List.Sublist.append (List.Sublist.refl [c, d, e]) (List.Sublist.append (List.sublist_append_left X Y) (List.Sublist.refl Z))).cons _).cons _
theorem pmR1 {a b c d e : Blk} {LY Lq : List Blk} : (a :: b :: ([c, d, e] ++ LY ++ Lq)).Perm (([a, b, c, d, e] ++ LY) ++ Lq) := perm_by fun f => by simp <;> omega
/-- the list of what is known once the trucks and j needs are read -/
def tskC (Ac Ab At : Option Addr) (nc nb nt cc cb ct : Nat) (cp hv wt : Int) : List Value := [.slice Ac nc cc, .slice Ab nb cb, .slice At nt ct, I cp, I hv, I wt]
set_option maxRecDepth 20000 in
set_option maxHeartbeats 4000000 in
theorem boundRead (n hd : Int) (A B C : Option Addr) (l : List Edg) (ts : List Truck) (ns : List Need) (ca cb cc : Nat) (w0 : World) (hN : NightAt w0 A B C l ts ns cc) :
    Calls Try.prog 20 #[.agg #[I n, .slice A l.length ca, .slice B ts.length cb, .slice C ns.length cc, I hd]] w0 fun e w' =>
      (nightErr n l ts ns hd ≠ 0 → e = .returned (.tuple #[.agg (tskC none none none 0 0 0 0 0 0 0 0 0).toArray, I (nightErr n l ts ns hd)]) ∧ Below w0.heap.size w0 w') ∧
      (nightErr n l ts ns hd = 0 → ∃ (m : Nat) (Ac Ab At : Option Addr) (rs : List (SlA Int)) (kc kb kt : Nat) (L : List Blk), n = m ∧ rs.map (·.l) = timL m l ns ∧ Reads L (fun w => TaskAt w Ac Ab At (colN ns) (briN ns) rs) ∧
        e = .returned (.tuple #[.agg (tskC Ac Ab At (colN ns).length (briN ns).length rs.length kc kb kt (capL ts) (movC ns).sum (movD ns).sum).toArray, I 0]) ∧ SH w0 [] w' L) := by
  have H := SH.refl w0
  refine Calls.ofWPc Try.func20 rfl Try.results20 Try.ntmps20 rfl ?_
  refine WP.seq ?_
  refine WP.region ?_
  refine OPS.box rfl rfl rfl rfl (cA rfl) H ?_
  clear H; intro g1 w H
  refine OPS.alloc rfl rfl rfl rfl (zero_run rfl) rfl H ?_
  clear H; intro g2 w H
  refine OPS.val rfl rfl rfl (Ev.asI rfl) ?_
  refine OPS.nil ?_
  refine WP.seq ?_
  refine WP.seq ?_
  refine WP.region ?_
  refine OPS.val rfl rfl rfl ((by exact Ev.loadO 1 H rfl (agg_run rfl) (size_run rfl) (by rfl) rfl)) ?_
  refine OPS.call (d := some 18) rfl rfl rfl (EvC.func (fun_run rfl)) (truckCheck n hd A B C l ts ns ca cb cc w (hN.sh H).l (hN.sh H).t (hN.sh H).n hN.c) ?_
  rintro _ w ⟨rfl, hb⟩
  refine ⟨_, rfl, ?_⟩
  replace H := H.toBelow hb; clear hb
  refine OPS.val rfl rfl rfl (Ev.asI rfl) ?_
  refine OPS.nil ?_
  refine WP.seq ?_
  refine WP.region ?_
  refine OPS.val rfl rfl rfl (Ev.mvI rfl) ?_
  refine OPS.val rfl rfl rfl (Ev.neq rfl rfl) ?_
  refine OPS.nil ?_
  refine WP.cond rfl (fun hc2 => ?_) (fun hc2 => ?_)
  · refine WP.seq ?_
    refine WP.region ?_
    refine OPS.val rfl rfl rfl (Ev.build (bld_60_ (e := fun _ => .int .i64 0))) ?_
    refine OPS.val rfl rfl rfl (Ev.mvI rfl) ?_
    refine OPS.store 0 _ rfl rfl rfl (size_run rfl) rfl (cA rfl) rfl rfl H rfl (by simp) ?_
    clear H; intro w H; try simp only [List.set_cons_zero, List.set_cons_succ, putL, Nat.zero_add] at H
    refine OPS.val rfl rfl rfl (Ev.asI rfl) ?_
    refine OPS.nil ?_
    refine WP.ret ⟨[_, _], ⟨(by exact resCellA 0 H rfl (agg_run rfl) (size_run rfl) (by rfl) rfl), rfl, trivial⟩, ?_⟩
    have h : nightErr n l ts ns hd ≠ 0 := by simpa using hc2
    exact ⟨fun _ => ⟨rfl, H.below⟩, fun h0 => absurd h0 h⟩
  have h0 : nightErr n l ts ns hd = 0 := by simpa using hc2
  obtain ⟨m, rfl, hK⟩ := nightOk_of h0
  have htl := hK.tl
  have hnl := hK.nl
  have hll := hK.road.len
  refine WP.skip ?_
  refine WP.seq ?_
  refine WP.region ?_
  refine OPS.val rfl rfl rfl (Ev.build (bld_60_ (e := fun _ => .int .i64 0))) ?_
  refine OPS.alloc rfl rfl rfl rfl (zero_run rfl) rfl H ?_
  clear H; intro g5 w H
  refine OPS.store 0 _ rfl rfl rfl (size_run rfl) rfl (cA rfl) rfl rfl H rfl (by simp) ?_
  clear H; intro w H; try simp only [List.set_cons_zero, List.set_cons_succ, putL, Nat.zero_add] at H
  refine OPS.nil ?_
  replace H : SH w0 [] w [⟨g5, 60, tskC none none none 0 0 0 0 0 0 0 0 0⟩, ⟨g2, 60, tskC none none none 0 0 0 0 0 0 0 0 0⟩, ⟨g1, 28, [I m, .slice A l.length ca, .slice B ts.length cb, .slice C ns.length cc, I hd]⟩] := H
  refine WP.seq ?_
  refine WP.seq ?_
  refine WP.region ?_
  refine OPS.val rfl rfl rfl (Ev.fieldAddr (fld_run rfl) rfl) ?_
  refine OPS.val rfl rfl rfl (Ev.load1 (agg_run rfl) rfl (by exact H.ldL 2 rfl _ rfl)) ?_
  refine OPS.val rfl rfl rfl (Ev.len (el_run rfl) rfl) ?_
  refine OPS.val rfl rfl rfl (Ev.mvI rfl) ?_
  refine OPS.nil ?_
  refine WP.block ?_
  refine WP.loop [7, 27, 28, 29, 30, 31, 32, 33, 34, 35, 36, 37] (fun k e w' => ∃ (j : Nat), j + k = ts.length ∧ e 27 = I j ∧ 0 ≤ capL (ts.take j) ∧ capL (ts.take j) ≤ 32 ∧ SH w0 [] w' [⟨g5, 60, tskC none none none 0 0 0 0 0 0 (capL (ts.take j)) 0 0⟩, ⟨g2, 60, tskC none none none 0 0 0 0 0 0 0 0 0⟩, ⟨g1, 28, [I m, .slice A l.length ca, .slice B ts.length cb, .slice C ns.length cc, I hd]⟩]) (ts.length) (⟨0, by omega, rfl, (by simp [capL]), (by simp [capL]), H⟩) ?_
  clear H
  rintro k u w ⟨j, hk, h27, hc0, hc1, H⟩
  refine WP.know (t := 27) h27 ?_
  refine WP.seq ?_
  refine WP.region ?_
  refine OPS.val rfl rfl rfl (Ev.lss rfl rfl) ?_
  refine OPS.nil ?_
  refine WP.seq ?_
  refine WP.cond rfl (fun hc6 => ?_) (fun hc6 => ?_)
  · have hlt : j < ts.length := by simpa using hc6
    obtain ⟨b, o, rfl, hc⟩ := hN.t j hlt
    have hc' := cellsAt_sh H hc
    have htr := hK.tr ts[j] (List.getElem_mem hlt)
    refine WP.skip ?_
    refine WP.seq ?_
    refine WP.block ?_
    refine WP.seq ?_
    refine WP.region ?_
    refine OPS.val rfl rfl rfl ((by exact Ev.indexAddr (el_run rfl) (size_run rfl) rfl rfl rfl (by omega))) ?_
    refine OPS.val rfl rfl rfl (Ev.loadN (truckCells ts[j]) (agg_run rfl) (size_run rfl) rfl hc') ?_
    refine OPS.alloc rfl rfl rfl rfl (zero_run rfl) rfl H ?_
    clear H; intro g7 w H
    refine OPS.store 0 _ rfl rfl rfl (size_run rfl) rfl (cA rfl) rfl rfl H rfl (by simp) ?_
    clear H; intro w H; try simp only [List.set_cons_zero, List.set_cons_succ, putL, Nat.zero_add] at H
    refine OPS.nil ?_
    unfold tskC at H
    clear hc'
    refine WP.region ?_
    refine OPS.val rfl rfl rfl (Ev.fieldAddr (fld_run rfl) rfl) ?_
    refine OPS.val rfl rfl rfl (Ev.load1 (agg_run rfl) rfl (by exact H.ldL 1 rfl _ rfl)) ?_
    refine OPS.val rfl rfl rfl (Ev.fieldAddr (fld_run rfl) rfl) ?_
    refine OPS.val rfl rfl rfl (Ev.load1 (agg_run rfl) rfl (by exact H.ldL 0 rfl _ rfl)) ?_
    refine OPS.val rfl rfl rfl (Ev.max rfl rfl) ?_
    refine OPS.val rfl rfl rfl (Ev.fieldAddr (fld_run rfl) rfl) ?_
    refine OPS.store 1 _ rfl rfl rfl (size_run rfl) rfl (cI rfl) rfl rfl H rfl (by simp) ?_
    clear H; intro w H; try simp only [List.set_cons_zero, List.set_cons_succ, putL, Nat.zero_add] at H
    refine OPS.nil ?_
    refine WP.region ?_
    refine OPS.val rfl rfl rfl (Ev.add rfl rfl (by unfold fits; omega)) ?_
    refine OPS.val rfl rfl rfl (Ev.mvI rfl) ?_
    refine OPS.nil ?_
    have hs := capL_take hlt
    exact ⟨(by repeat (first | exact Agree.refl _ _ | exact Agree.mix _ _ _ | refine Agree.upd rfl ?_ | refine Agree.mix2 rfl ?_)), k - 1, by omega, j + 1, by omega, rfl, (by rw [hs]; split <;> omega), (by rw [hs]; split <;> omega), (by rw [hs]; exact H.drop (List.sublist_cons_self _ _))⟩
  have hj : j = ts.length := by simp at hc6; omega
  subst hj
  rw [List.take_length] at H
  clear hc0 hc1
  generalize hcp : capL ts = cp at *
  refine WP.exit ?_
  refine XB.hit ?_
  refine WP.seq ?_
  refine WP.seq ?_
  refine WP.region ?_
  refine OPS.val rfl rfl rfl (Ev.fieldAddr (fld_run rfl) rfl) ?_
  refine OPS.val rfl rfl rfl (Ev.load1 (agg_run rfl) rfl (by exact H.ldL 2 rfl _ rfl)) ?_
  refine OPS.val rfl rfl rfl (Ev.len (el_run rfl) rfl) ?_
  refine OPS.val rfl rfl rfl (Ev.mvI rfl) ?_
  refine OPS.nil ?_
  refine WP.block ?_
  refine WP.loop [9, 41, 42, 43, 44, 45, 46, 47, 48, 49, 50, 51, 52, 53, 54, 55, 56, 57, 58, 59, 60, 61, 62, 63, 64, 65, 66, 67, 68, 69, 70, 71, 72] (fun k e w' => ∃ (j : Nat) (Ac Ab : Option Addr) (kc kb : Nat) (Lc Lb : List Blk), j + k = ns.length ∧ e 41 = I j ∧ OwnS Ac kc (colN (ns.take j)).length ((colN (ns.take j)).flatMap needCells) 48 2 Lc ∧ OwnS Ab kb (briN (ns.take j)).length ((briN (ns.take j)).flatMap needCells) 48 2 Lb ∧ SH w0 [] w' ([⟨g5, 60, tskC Ac Ab none (colN (ns.take j)).length (briN (ns.take j)).length 0 kc kb 0 cp (movC (ns.take j)).sum (movD (ns.take j)).sum⟩, ⟨g2, 60, tskC none none none 0 0 0 0 0 0 0 0 0⟩, ⟨g1, 28, [I m, .slice A l.length ca, .slice B ts.length cb, .slice C ns.length cc, I hd]⟩] ++ (Lc ++ Lb))) (ns.length) (⟨0, none, none, 0, 0, [], [], by omega, rfl, OwnS.nil, OwnS.nil, (by rw [List.append_nil, List.append_nil]; exact H)⟩) ?_
  clear H
  rintro k u w ⟨j, Ac, Ab, kc, kb, Lc, Lb, hk, h41, hOc, hOb, H⟩
  refine WP.know (t := 41) h41 ?_
  refine WP.seq ?_
  refine WP.region ?_
  refine OPS.val rfl rfl rfl (Ev.lss rfl rfl) ?_
  refine OPS.nil ?_
  refine WP.seq ?_
  refine WP.cond rfl (fun hc11 => ?_) (fun hc11 => ?_)
  · have hlt : j < ns.length := by simpa using hc11
    obtain ⟨b, o, rfl, hc⟩ := hN.n j hlt
    have hc' := cellsAt_sh H hc
    have hnx := hK.nd ns[j] (List.getElem_mem hlt)
    have hb1 := movC_bd hK j
    have hb2 := movD_bd hK j
    have hl1 := colN_len ns j
    have hl2 := briN_len ns j
    refine WP.skip ?_
    refine WP.seq ?_
    refine WP.block ?_
    refine WP.seq ?_
    refine WP.region ?_
    refine OPS.val rfl rfl rfl ((by exact Ev.indexAddr (el_run rfl) (size_run rfl) rfl rfl rfl (by omega))) ?_
    refine OPS.val rfl rfl rfl (Ev.loadN (needCells ns[j]) (agg_run rfl) (size_run rfl) rfl hc') ?_
    refine OPS.alloc rfl rfl rfl rfl (zero_run rfl) rfl H ?_
    clear H; intro g9 w H
    refine OPS.store 0 _ rfl rfl rfl (size_run rfl) rfl (cA rfl) rfl rfl H rfl (by simp) ?_
    clear H; intro w H; try simp only [List.set_cons_zero, List.set_cons_succ, putL, Nat.zero_add] at H
    refine OPS.nil ?_
    refine WP.seq ?_
    clear hc'
    unfold needCells at H
    refine WP.region ?_
    refine OPS.val rfl rfl rfl (Ev.fieldAddr (fld_run rfl) rfl) ?_
    refine OPS.val rfl rfl rfl (Ev.load1 (agg_run rfl) rfl (by exact H.ldL 0 rfl _ rfl)) ?_
    refine OPS.val rfl rfl rfl (Ev.gtr rfl rfl) ?_
    refine OPS.nil ?_
    refine WP.cond rfl (fun hc13 => ?_) (fun hc13 => ?_)
    · have hpos : 0 < ns[j].move := by simpa using hc13
      have e1 : colN (ns.take (j + 1)) = colN (ns.take j) ++ [ns[j]] := by unfold colN; rw [filt_take hlt, if_pos (by simpa using hpos)]
      have e2 : briN (ns.take (j + 1)) = briN (ns.take j) := by unfold briN; rw [filt_take hlt, if_neg (by simp [hpos]), List.append_nil]
      have E := H
      replace H := H.drop (L' := [⟨g9, 48, [I ns[j].node, I ns[j].move]⟩]) (List.Sublist.cons_cons _ (List.nil_sublist _))
      refine WP.rheldC [48, 49, 50, 51, 52, 53, 54, 55, 56, 57, 58, 59] (fun _ w' => ∃ (Ac : Option Addr) (kc : Nat) (Lc : List Blk), OwnS Ac kc ((colN (ns.take j)).length + 1) ((colN (ns.take j)).flatMap needCells ++ needCells ns[j]) 48 2 Lc ∧ SH w0 [] w' ([⟨g5, 60, tskC Ac Ab none ((colN (ns.take j)).length + 1) (briN (ns.take j)).length 0 kc kb 0 cp ((movC (ns.take j)).sum + ns[j].move) (movD (ns.take j)).sum⟩, ⟨g2, 60, tskC none none none 0 0 0 0 0 0 0 0 0⟩, ⟨g1, 28, [I m, .slice A l.length ca, .slice B ts.length cb, .slice (some ⟨b, o, none⟩) ns.length cc, I hd]⟩] ++ (Lc ++ Lb))) mixed H ?_ ?_
      · clear H; intro w hbw14 H
        refine OPH.take 0 rfl rfl rfl rfl (by kernel_rfl) (by kernel_rfl) (by kernel_rfl) rfl (by exact H) (fun w H => Ev.fieldAddr (fld_run rfl) rfl) ?_
        refine OPH.take 2 rfl rfl rfl rfl (by kernel_rfl) (by kernel_rfl) (by kernel_rfl) rfl (by exact H) (fun w H => (by exact Ev.loadO 0 H rfl (agg_run rfl) (size_run rfl) (by rfl) rfl)) ?_
        refine OPH.take 5 rfl rfl rfl rfl (by kernel_rfl) (by kernel_rfl) (by kernel_rfl) rfl (by exact H) (fun w H => Ev.fieldAddr (fld_run rfl) rfl) ?_
        refine OPH.take 7 rfl rfl rfl rfl (by kernel_rfl) (by kernel_rfl) (by kernel_rfl) rfl (by exact H) (fun w H => Ev.fieldAddr (fld_run rfl) rfl) ?_
        refine OPH.take 8 rfl rfl rfl rfl (by kernel_rfl) (by kernel_rfl) (by kernel_rfl) rfl (by exact H) (fun w H => Ev.load1 (agg_run rfl) rfl (by exact H.ldL 0 rfl _ rfl)) ?_
        refine OPH.all [1, 3, 6] (by kernel_rfl) (by simp) rfl ?_
        intro i hi; simp only [List.mem_cons, List.not_mem_nil, or_false] at hi
        rcases hi with rfl | rfl | rfl
        · refine ⟨_, rfl, ?_⟩
          try replace E := E.toBelow hbw14
          refine OPS.val rfl rfl rfl (Ev.load1 (agg_run rfl) rfl (by exact E.ldL 1 rfl 0 rfl)) ?_
          refine OPS.nil ?_
          refine ⟨(by exact H), ?_⟩
          refine OPH.all [3, 6] (by kernel_rfl) (by simp) rfl ?_
          intro i hi; simp only [List.mem_cons, List.not_mem_nil, or_false] at hi
          rcases hi with rfl | rfl
          · refine ⟨_, rfl, ?_⟩
            try replace E := E.toBelow hbw14
            refine OPS.buildSlice rfl rfl rfl rfl (bsl_26_1_0 rfl) E ?_
            clear H E; intro g51 w E
            have H := E.drop (L' := [⟨g9, 48, [I ns[j].node, I ns[j].move]⟩]) one2
            refine OPS.nil ?_
            refine ⟨(by exact H), ?_⟩
            refine OPH.all [4, 6] (by kernel_rfl) (by simp) rfl ?_
            intro i hi; simp only [List.mem_cons, List.not_mem_nil, or_false] at hi
            rcases hi with rfl | rfl
            · refine ⟨_, rfl, ?_⟩
              refine OPS.append (m := 1) (news := needCells ns[j]) (R := [⟨g51, 48, [I ns[j].node, I ns[j].move]⟩, ⟨g9, 48, [I ns[j].node, I ns[j].move]⟩, ⟨g5, 60, tskC Ac Ab none (colN (ns.take j)).length (briN (ns.take j)).length 0 kc kb 0 cp (movC (ns.take j)).sum (movD (ns.take j)).sum⟩, ⟨g2, 60, tskC none none none 0 0 0 0 0 0 0 0 0⟩, ⟨g1, 28, [I m, .slice A l.length ca, .slice B ts.length cb, .slice (some ⟨b, o, none⟩) ns.length cc, I hd]⟩] ++ Lb) rfl rfl rfl rfl rfl (sl_run rfl) rfl rfl hOc rfl (src_own E 0 rfl) rfl (by omega) (by unfold maxLen; omega) E pm1 ?_
              clear H E hOc; intro Ac2 kc2 Lc2 w hOc E
              have H := E.drop (L' := [⟨g9, 48, [I ns[j].node, I ns[j].move]⟩]) one2
              refine OPS.nil ?_
              refine ⟨(by exact H), ?_⟩
              refine OPH.all [6] (by kernel_rfl) (by simp) rfl ?_
              intro i hi; simp only [List.mem_cons, List.not_mem_nil, or_false] at hi
              rcases hi with rfl
              · refine ⟨_, rfl, ?_⟩
                try replace E := E.toBelow hbw14
                refine OPS.val rfl rfl rfl (Ev.load1 (agg_run rfl) rfl (by exact E.ldL 2 rfl 4 rfl)) ?_
                refine OPS.nil ?_
                refine ⟨(by exact H), ?_⟩
                refine OPH.take 9 rfl rfl rfl rfl (by kernel_rfl) (by kernel_rfl) (by kernel_rfl) rfl (by exact H) (fun w H => Ev.add rfl rfl (by unfold fits; omega)) ?_
                refine OPH.take 10 rfl rfl rfl rfl (by kernel_rfl) (by kernel_rfl) (by kernel_rfl) rfl (by exact H) (fun w H => Ev.fieldAddr (fld_run rfl) rfl) ?_
                refine OPH.all [11] (by kernel_rfl) (by simp) rfl ?_
                intro i hi; simp only [List.mem_cons, List.not_mem_nil, or_false] at hi
                rcases hi with rfl
                · refine ⟨_, rfl, ?_⟩
                  unfold tskC at E
                  refine OPS.store 2 _ rfl rfl rfl (size_run rfl) rfl (cS rfl) rfl rfl E rfl (by simp) ?_
                  clear H E; intro w E
                  simp only [List.set_cons_zero, List.set_cons_succ, List.cons_append, List.nil_append, putL] at E
                  have H := E.drop (L' := [⟨g9, 48, [I ns[j].node, I ns[j].move]⟩]) one2
                  refine OPS.nil ?_
                  refine ⟨(by exact H), ?_⟩
                  refine OPH.take 12 rfl rfl rfl rfl (by kernel_rfl) (by kernel_rfl) (by kernel_rfl) rfl (by exact H) (fun w H => Ev.fieldAddr (fld_run rfl) rfl) ?_
                  refine OPH.all [13] (by kernel_rfl) (by simp) rfl ?_
                  intro i hi; simp only [List.mem_cons, List.not_mem_nil, or_false] at hi
                  rcases hi with rfl
                  · refine ⟨_, rfl, ?_⟩
                    refine OPS.store 2 _ rfl rfl rfl (size_run rfl) rfl (cI rfl) rfl rfl E rfl (by simp) ?_
                    clear H E; intro w E
                    simp only [List.set_cons_zero, List.set_cons_succ, List.cons_append, List.nil_append, putL] at E
                    have H := E.drop (L' := [⟨g9, 48, [I ns[j].node, I ns[j].move]⟩]) one2
                    refine OPS.nil ?_
                    refine ⟨(by exact H), ?_⟩
                    refine OPH.done (by kernel_rfl) ?_
                    exact ⟨(by repeat (first | exact Agree.refl _ _ | exact Agree.mix _ _ _ | refine Agree.upd rfl ?_ | refine Agree.mix2 rfl ?_)), _, _, _, hOc, pm3 E⟩
            · refine ⟨_, rfl, ?_⟩
              try replace E := E.toBelow hbw14
              refine OPS.val rfl rfl rfl (Ev.load1 (agg_run rfl) rfl (by exact E.ldL 2 rfl 4 rfl)) ?_
              refine OPS.nil ?_
              refine ⟨(by exact H), ?_⟩
              refine OPH.take 9 rfl rfl rfl rfl (by kernel_rfl) (by kernel_rfl) (by kernel_rfl) rfl (by exact H) (fun w H => Ev.add rfl rfl (by unfold fits; omega)) ?_
              refine OPH.all [4] (by kernel_rfl) (by simp) rfl ?_
              intro i hi; simp only [List.mem_cons, List.not_mem_nil, or_false] at hi
              rcases hi with rfl
              · refine ⟨_, rfl, ?_⟩
                refine OPS.append (m := 1) (news := needCells ns[j]) (R := [⟨g51, 48, [I ns[j].node, I ns[j].move]⟩, ⟨g9, 48, [I ns[j].node, I ns[j].move]⟩, ⟨g5, 60, tskC Ac Ab none (colN (ns.take j)).length (briN (ns.take j)).length 0 kc kb 0 cp (movC (ns.take j)).sum (movD (ns.take j)).sum⟩, ⟨g2, 60, tskC none none none 0 0 0 0 0 0 0 0 0⟩, ⟨g1, 28, [I m, .slice A l.length ca, .slice B ts.length cb, .slice (some ⟨b, o, none⟩) ns.length cc, I hd]⟩] ++ Lb) rfl rfl rfl rfl rfl (sl_run rfl) rfl rfl hOc rfl (src_own E 0 rfl) rfl (by omega) (by unfold maxLen; omega) E pm1 ?_
                clear H E hOc; intro Ac2 kc2 Lc2 w hOc E
                have H := E.drop (L' := [⟨g9, 48, [I ns[j].node, I ns[j].move]⟩]) one2
                refine OPS.nil ?_
                refine ⟨(by exact H), ?_⟩
                refine OPH.take 10 rfl rfl rfl rfl (by kernel_rfl) (by kernel_rfl) (by kernel_rfl) rfl (by exact H) (fun w H => Ev.fieldAddr (fld_run rfl) rfl) ?_
                refine OPH.all [11] (by kernel_rfl) (by simp) rfl ?_
                intro i hi; simp only [List.mem_cons, List.not_mem_nil, or_false] at hi
                rcases hi with rfl
                · refine ⟨_, rfl, ?_⟩
                  unfold tskC at E
                  refine OPS.store 2 _ rfl rfl rfl (size_run rfl) rfl (cS rfl) rfl rfl E rfl (by simp) ?_
                  clear H E; intro w E
                  simp only [List.set_cons_zero, List.set_cons_succ, List.cons_append, List.nil_append, putL] at E
                  have H := E.drop (L' := [⟨g9, 48, [I ns[j].node, I ns[j].move]⟩]) one2
                  refine OPS.nil ?_
                  refine ⟨(by exact H), ?_⟩
                  refine OPH.take 12 rfl rfl rfl rfl (by kernel_rfl) (by kernel_rfl) (by kernel_rfl) rfl (by exact H) (fun w H => Ev.fieldAddr (fld_run rfl) rfl) ?_
                  refine OPH.all [13] (by kernel_rfl) (by simp) rfl ?_
                  intro i hi; simp only [List.mem_cons, List.not_mem_nil, or_false] at hi
                  rcases hi with rfl
                  · refine ⟨_, rfl, ?_⟩
                    refine OPS.store 2 _ rfl rfl rfl (size_run rfl) rfl (cI rfl) rfl rfl E rfl (by simp) ?_
                    clear H E; intro w E
                    simp only [List.set_cons_zero, List.set_cons_succ, List.cons_append, List.nil_append, putL] at E
                    have H := E.drop (L' := [⟨g9, 48, [I ns[j].node, I ns[j].move]⟩]) one2
                    refine OPS.nil ?_
                    refine ⟨(by exact H), ?_⟩
                    refine OPH.done (by kernel_rfl) ?_
                    exact ⟨(by repeat (first | exact Agree.refl _ _ | exact Agree.mix _ _ _ | refine Agree.upd rfl ?_ | refine Agree.mix2 rfl ?_)), _, _, _, hOc, pm3 E⟩
          · refine ⟨_, rfl, ?_⟩
            try replace E := E.toBelow hbw14
            refine OPS.val rfl rfl rfl (Ev.load1 (agg_run rfl) rfl (by exact E.ldL 1 rfl 4 rfl)) ?_
            refine OPS.nil ?_
            refine ⟨(by exact H), ?_⟩
            refine OPH.take 9 rfl rfl rfl rfl (by kernel_rfl) (by kernel_rfl) (by kernel_rfl) rfl (by exact H) (fun w H => Ev.add rfl rfl (by unfold fits; omega)) ?_
            refine OPH.all [3] (by kernel_rfl) (by simp) rfl ?_
            intro i hi; simp only [List.mem_cons, List.not_mem_nil, or_false] at hi
            rcases hi with rfl
            · refine ⟨_, rfl, ?_⟩
              try replace E := E.toBelow hbw14
              refine OPS.buildSlice rfl rfl rfl rfl (bsl_26_1_0 rfl) E ?_
              clear H E; intro g51 w E
              have H := E.drop (L' := [⟨g9, 48, [I ns[j].node, I ns[j].move]⟩]) one2
              refine OPS.nil ?_
              refine ⟨(by exact H), ?_⟩
              refine OPH.all [4] (by kernel_rfl) (by simp) rfl ?_
              intro i hi; simp only [List.mem_cons, List.not_mem_nil, or_false] at hi
              rcases hi with rfl
              · refine ⟨_, rfl, ?_⟩
                refine OPS.append (m := 1) (news := needCells ns[j]) (R := [⟨g51, 48, [I ns[j].node, I ns[j].move]⟩, ⟨g9, 48, [I ns[j].node, I ns[j].move]⟩, ⟨g5, 60, tskC Ac Ab none (colN (ns.take j)).length (briN (ns.take j)).length 0 kc kb 0 cp (movC (ns.take j)).sum (movD (ns.take j)).sum⟩, ⟨g2, 60, tskC none none none 0 0 0 0 0 0 0 0 0⟩, ⟨g1, 28, [I m, .slice A l.length ca, .slice B ts.length cb, .slice (some ⟨b, o, none⟩) ns.length cc, I hd]⟩] ++ Lb) rfl rfl rfl rfl rfl (sl_run rfl) rfl rfl hOc rfl (src_own E 0 rfl) rfl (by omega) (by unfold maxLen; omega) E pm1 ?_
                clear H E hOc; intro Ac2 kc2 Lc2 w hOc E
                have H := E.drop (L' := [⟨g9, 48, [I ns[j].node, I ns[j].move]⟩]) one2
                refine OPS.nil ?_
                refine ⟨(by exact H), ?_⟩
                refine OPH.take 10 rfl rfl rfl rfl (by kernel_rfl) (by kernel_rfl) (by kernel_rfl) rfl (by exact H) (fun w H => Ev.fieldAddr (fld_run rfl) rfl) ?_
                refine OPH.all [11] (by kernel_rfl) (by simp) rfl ?_
                intro i hi; simp only [List.mem_cons, List.not_mem_nil, or_false] at hi
                rcases hi with rfl
                · refine ⟨_, rfl, ?_⟩
                  unfold tskC at E
                  refine OPS.store 2 _ rfl rfl rfl (size_run rfl) rfl (cS rfl) rfl rfl E rfl (by simp) ?_
                  clear H E; intro w E
                  simp only [List.set_cons_zero, List.set_cons_succ, List.cons_append, List.nil_append, putL] at E
                  have H := E.drop (L' := [⟨g9, 48, [I ns[j].node, I ns[j].move]⟩]) one2
                  refine OPS.nil ?_
                  refine ⟨(by exact H), ?_⟩
                  refine OPH.take 12 rfl rfl rfl rfl (by kernel_rfl) (by kernel_rfl) (by kernel_rfl) rfl (by exact H) (fun w H => Ev.fieldAddr (fld_run rfl) rfl) ?_
                  refine OPH.all [13] (by kernel_rfl) (by simp) rfl ?_
                  intro i hi; simp only [List.mem_cons, List.not_mem_nil, or_false] at hi
                  rcases hi with rfl
                  · refine ⟨_, rfl, ?_⟩
                    refine OPS.store 2 _ rfl rfl rfl (size_run rfl) rfl (cI rfl) rfl rfl E rfl (by simp) ?_
                    clear H E; intro w E
                    simp only [List.set_cons_zero, List.set_cons_succ, List.cons_append, List.nil_append, putL] at E
                    have H := E.drop (L' := [⟨g9, 48, [I ns[j].node, I ns[j].move]⟩]) one2
                    refine OPS.nil ?_
                    refine ⟨(by exact H), ?_⟩
                    refine OPH.done (by kernel_rfl) ?_
                    exact ⟨(by repeat (first | exact Agree.refl _ _ | exact Agree.mix _ _ _ | refine Agree.upd rfl ?_ | refine Agree.mix2 rfl ?_)), _, _, _, hOc, pm3 E⟩
        · refine ⟨_, rfl, ?_⟩
          try replace E := E.toBelow hbw14
          refine OPS.buildSlice rfl rfl rfl rfl (bsl_26_1_0 rfl) E ?_
          clear H E; intro g51 w E
          have H := E.drop (L' := [⟨g9, 48, [I ns[j].node, I ns[j].move]⟩]) one2
          refine OPS.nil ?_
          refine ⟨(by exact H), ?_⟩
          refine OPH.all [1, 6] (by kernel_rfl) (by simp) rfl ?_
          intro i hi; simp only [List.mem_cons, List.not_mem_nil, or_false] at hi
          rcases hi with rfl | rfl
          · refine ⟨_, rfl, ?_⟩
            try replace E := E.toBelow hbw14
            refine OPS.val rfl rfl rfl (Ev.load1 (agg_run rfl) rfl (by exact E.ldL 2 rfl 0 rfl)) ?_
            refine OPS.nil ?_
            refine ⟨(by exact H), ?_⟩
            refine OPH.all [4, 6] (by kernel_rfl) (by simp) rfl ?_
            intro i hi; simp only [List.mem_cons, List.not_mem_nil, or_false] at hi
            rcases hi with rfl | rfl
            · refine ⟨_, rfl, ?_⟩
              refine OPS.append (m := 1) (news := needCells ns[j]) (R := [⟨g51, 48, [I ns[j].node, I ns[j].move]⟩, ⟨g9, 48, [I ns[j].node, I ns[j].move]⟩, ⟨g5, 60, tskC Ac Ab none (colN (ns.take j)).length (briN (ns.take j)).length 0 kc kb 0 cp (movC (ns.take j)).sum (movD (ns.take j)).sum⟩, ⟨g2, 60, tskC none none none 0 0 0 0 0 0 0 0 0⟩, ⟨g1, 28, [I m, .slice A l.length ca, .slice B ts.length cb, .slice (some ⟨b, o, none⟩) ns.length cc, I hd]⟩] ++ Lb) rfl rfl rfl rfl rfl (sl_run rfl) rfl rfl hOc rfl (src_own E 0 rfl) rfl (by omega) (by unfold maxLen; omega) E pm1 ?_
              clear H E hOc; intro Ac2 kc2 Lc2 w hOc E
              have H := E.drop (L' := [⟨g9, 48, [I ns[j].node, I ns[j].move]⟩]) one2
              refine OPS.nil ?_
              refine ⟨(by exact H), ?_⟩
              refine OPH.all [6] (by kernel_rfl) (by simp) rfl ?_
              intro i hi; simp only [List.mem_cons, List.not_mem_nil, or_false] at hi
              rcases hi with rfl
              · refine ⟨_, rfl, ?_⟩
                try replace E := E.toBelow hbw14
                refine OPS.val rfl rfl rfl (Ev.load1 (agg_run rfl) rfl (by exact E.ldL 2 rfl 4 rfl)) ?_
                refine OPS.nil ?_
                refine ⟨(by exact H), ?_⟩
                refine OPH.take 9 rfl rfl rfl rfl (by kernel_rfl) (by kernel_rfl) (by kernel_rfl) rfl (by exact H) (fun w H => Ev.add rfl rfl (by unfold fits; omega)) ?_
                refine OPH.take 10 rfl rfl rfl rfl (by kernel_rfl) (by kernel_rfl) (by kernel_rfl) rfl (by exact H) (fun w H => Ev.fieldAddr (fld_run rfl) rfl) ?_
                refine OPH.all [11] (by kernel_rfl) (by simp) rfl ?_
                intro i hi; simp only [List.mem_cons, List.not_mem_nil, or_false] at hi
                rcases hi with rfl
                · refine ⟨_, rfl, ?_⟩
                  unfold tskC at E
                  refine OPS.store 2 _ rfl rfl rfl (size_run rfl) rfl (cS rfl) rfl rfl E rfl (by simp) ?_
                  clear H E; intro w E
                  simp only [List.set_cons_zero, List.set_cons_succ, List.cons_append, List.nil_append, putL] at E
                  have H := E.drop (L' := [⟨g9, 48, [I ns[j].node, I ns[j].move]⟩]) one2
                  refine OPS.nil ?_
                  refine ⟨(by exact H), ?_⟩
                  refine OPH.take 12 rfl rfl rfl rfl (by kernel_rfl) (by kernel_rfl) (by kernel_rfl) rfl (by exact H) (fun w H => Ev.fieldAddr (fld_run rfl) rfl) ?_
                  refine OPH.all [13] (by kernel_rfl) (by simp) rfl ?_
                  intro i hi; simp only [List.mem_cons, List.not_mem_nil, or_false] at hi
                  rcases hi with rfl
                  · refine ⟨_, rfl, ?_⟩
                    refine OPS.store 2 _ rfl rfl rfl (size_run rfl) rfl (cI rfl) rfl rfl E rfl (by simp) ?_
                    clear H E; intro w E
                    simp only [List.set_cons_zero, List.set_cons_succ, List.cons_append, List.nil_append, putL] at E
                    have H := E.drop (L' := [⟨g9, 48, [I ns[j].node, I ns[j].move]⟩]) one2
                    refine OPS.nil ?_
                    refine ⟨(by exact H), ?_⟩
                    refine OPH.done (by kernel_rfl) ?_
                    exact ⟨(by repeat (first | exact Agree.refl _ _ | exact Agree.mix _ _ _ | refine Agree.upd rfl ?_ | refine Agree.mix2 rfl ?_)), _, _, _, hOc, pm3 E⟩
            · refine ⟨_, rfl, ?_⟩
              try replace E := E.toBelow hbw14
              refine OPS.val rfl rfl rfl (Ev.load1 (agg_run rfl) rfl (by exact E.ldL 2 rfl 4 rfl)) ?_
              refine OPS.nil ?_
              refine ⟨(by exact H), ?_⟩
              refine OPH.take 9 rfl rfl rfl rfl (by kernel_rfl) (by kernel_rfl) (by kernel_rfl) rfl (by exact H) (fun w H => Ev.add rfl rfl (by unfold fits; omega)) ?_
              refine OPH.all [4] (by kernel_rfl) (by simp) rfl ?_
              intro i hi; simp only [List.mem_cons, List.not_mem_nil, or_false] at hi
              rcases hi with rfl
              · refine ⟨_, rfl, ?_⟩
                refine OPS.append (m := 1) (news := needCells ns[j]) (R := [⟨g51, 48, [I ns[j].node, I ns[j].move]⟩, ⟨g9, 48, [I ns[j].node, I ns[j].move]⟩, ⟨g5, 60, tskC Ac Ab none (colN (ns.take j)).length (briN (ns.take j)).length 0 kc kb 0 cp (movC (ns.take j)).sum (movD (ns.take j)).sum⟩, ⟨g2, 60, tskC none none none 0 0 0 0 0 0 0 0 0⟩, ⟨g1, 28, [I m, .slice A l.length ca, .slice B ts.length cb, .slice (some ⟨b, o, none⟩) ns.length cc, I hd]⟩] ++ Lb) rfl rfl rfl rfl rfl (sl_run rfl) rfl rfl hOc rfl (src_own E 0 rfl) rfl (by omega) (by unfold maxLen; omega) E pm1 ?_
                clear H E hOc; intro Ac2 kc2 Lc2 w hOc E
                have H := E.drop (L' := [⟨g9, 48, [I ns[j].node, I ns[j].move]⟩]) one2
                refine OPS.nil ?_
                refine ⟨(by exact H), ?_⟩
                refine OPH.take 10 rfl rfl rfl rfl (by kernel_rfl) (by kernel_rfl) (by kernel_rfl) rfl (by exact H) (fun w H => Ev.fieldAddr (fld_run rfl) rfl) ?_
                refine OPH.all [11] (by kernel_rfl) (by simp) rfl ?_
                intro i hi; simp only [List.mem_cons, List.not_mem_nil, or_false] at hi
                rcases hi with rfl
                · refine ⟨_, rfl, ?_⟩
                  unfold tskC at E
                  refine OPS.store 2 _ rfl rfl rfl (size_run rfl) rfl (cS rfl) rfl rfl E rfl (by simp) ?_
                  clear H E; intro w E
                  simp only [List.set_cons_zero, List.set_cons_succ, List.cons_append, List.nil_append, putL] at E
                  have H := E.drop (L' := [⟨g9, 48, [I ns[j].node, I ns[j].move]⟩]) one2
                  refine OPS.nil ?_
                  refine ⟨(by exact H), ?_⟩
                  refine OPH.take 12 rfl rfl rfl rfl (by kernel_rfl) (by kernel_rfl) (by kernel_rfl) rfl (by exact H) (fun w H => Ev.fieldAddr (fld_run rfl) rfl) ?_
                  refine OPH.all [13] (by kernel_rfl) (by simp) rfl ?_
                  intro i hi; simp only [List.mem_cons, List.not_mem_nil, or_false] at hi
                  rcases hi with rfl
                  · refine ⟨_, rfl, ?_⟩
                    refine OPS.store 2 _ rfl rfl rfl (size_run rfl) rfl (cI rfl) rfl rfl E rfl (by simp) ?_
                    clear H E; intro w E
                    simp only [List.set_cons_zero, List.set_cons_succ, List.cons_append, List.nil_append, putL] at E
                    have H := E.drop (L' := [⟨g9, 48, [I ns[j].node, I ns[j].move]⟩]) one2
                    refine OPS.nil ?_
                    refine ⟨(by exact H), ?_⟩
                    refine OPH.done (by kernel_rfl) ?_
                    exact ⟨(by repeat (first | exact Agree.refl _ _ | exact Agree.mix _ _ _ | refine Agree.upd rfl ?_ | refine Agree.mix2 rfl ?_)), _, _, _, hOc, pm3 E⟩
          · refine ⟨_, rfl, ?_⟩
            try replace E := E.toBelow hbw14
            refine OPS.val rfl rfl rfl (Ev.load1 (agg_run rfl) rfl (by exact E.ldL 2 rfl 4 rfl)) ?_
            refine OPS.nil ?_
            refine ⟨(by exact H), ?_⟩
            refine OPH.take 9 rfl rfl rfl rfl (by kernel_rfl) (by kernel_rfl) (by kernel_rfl) rfl (by exact H) (fun w H => Ev.add rfl rfl (by unfold fits; omega)) ?_
            refine OPH.all [1] (by kernel_rfl) (by simp) rfl ?_
            intro i hi; simp only [List.mem_cons, List.not_mem_nil, or_false] at hi
            rcases hi with rfl
            · refine ⟨_, rfl, ?_⟩
              try replace E := E.toBelow hbw14
              refine OPS.val rfl rfl rfl (Ev.load1 (agg_run rfl) rfl (by exact E.ldL 2 rfl 0 rfl)) ?_
              refine OPS.nil ?_
              refine ⟨(by exact H), ?_⟩
              refine OPH.all [4] (by kernel_rfl) (by simp) rfl ?_
              intro i hi; simp only [List.mem_cons, List.not_mem_nil, or_false] at hi
              rcases hi with rfl
              · refine ⟨_, rfl, ?_⟩
                refine OPS.append (m := 1) (news := needCells ns[j]) (R := [⟨g51, 48, [I ns[j].node, I ns[j].move]⟩, ⟨g9, 48, [I ns[j].node, I ns[j].move]⟩, ⟨g5, 60, tskC Ac Ab none (colN (ns.take j)).length (briN (ns.take j)).length 0 kc kb 0 cp (movC (ns.take j)).sum (movD (ns.take j)).sum⟩, ⟨g2, 60, tskC none none none 0 0 0 0 0 0 0 0 0⟩, ⟨g1, 28, [I m, .slice A l.length ca, .slice B ts.length cb, .slice (some ⟨b, o, none⟩) ns.length cc, I hd]⟩] ++ Lb) rfl rfl rfl rfl rfl (sl_run rfl) rfl rfl hOc rfl (src_own E 0 rfl) rfl (by omega) (by unfold maxLen; omega) E pm1 ?_
                clear H E hOc; intro Ac2 kc2 Lc2 w hOc E
                have H := E.drop (L' := [⟨g9, 48, [I ns[j].node, I ns[j].move]⟩]) one2
                refine OPS.nil ?_
                refine ⟨(by exact H), ?_⟩
                refine OPH.take 10 rfl rfl rfl rfl (by kernel_rfl) (by kernel_rfl) (by kernel_rfl) rfl (by exact H) (fun w H => Ev.fieldAddr (fld_run rfl) rfl) ?_
                refine OPH.all [11] (by kernel_rfl) (by simp) rfl ?_
                intro i hi; simp only [List.mem_cons, List.not_mem_nil, or_false] at hi
                rcases hi with rfl
                · refine ⟨_, rfl, ?_⟩
                  unfold tskC at E
                  refine OPS.store 2 _ rfl rfl rfl (size_run rfl) rfl (cS rfl) rfl rfl E rfl (by simp) ?_
                  clear H E; intro w E
                  simp only [List.set_cons_zero, List.set_cons_succ, List.cons_append, List.nil_append, putL] at E
                  have H := E.drop (L' := [⟨g9, 48, [I ns[j].node, I ns[j].move]⟩]) one2
                  refine OPS.nil ?_
                  refine ⟨(by exact H), ?_⟩
                  refine OPH.take 12 rfl rfl rfl rfl (by kernel_rfl) (by kernel_rfl) (by kernel_rfl) rfl (by exact H) (fun w H => Ev.fieldAddr (fld_run rfl) rfl) ?_
                  refine OPH.all [13] (by kernel_rfl) (by simp) rfl ?_
                  intro i hi; simp only [List.mem_cons, List.not_mem_nil, or_false] at hi
                  rcases hi with rfl
                  · refine ⟨_, rfl, ?_⟩
                    refine OPS.store 2 _ rfl rfl rfl (size_run rfl) rfl (cI rfl) rfl rfl E rfl (by simp) ?_
                    clear H E; intro w E
                    simp only [List.set_cons_zero, List.set_cons_succ, List.cons_append, List.nil_append, putL] at E
                    have H := E.drop (L' := [⟨g9, 48, [I ns[j].node, I ns[j].move]⟩]) one2
                    refine OPS.nil ?_
                    refine ⟨(by exact H), ?_⟩
                    refine OPH.done (by kernel_rfl) ?_
                    exact ⟨(by repeat (first | exact Agree.refl _ _ | exact Agree.mix _ _ _ | refine Agree.upd rfl ?_ | refine Agree.mix2 rfl ?_)), _, _, _, hOc, pm3 E⟩
        · refine ⟨_, rfl, ?_⟩
          try replace E := E.toBelow hbw14
          refine OPS.val rfl rfl rfl (Ev.load1 (agg_run rfl) rfl (by exact E.ldL 1 rfl 4 rfl)) ?_
          refine OPS.nil ?_
          refine ⟨(by exact H), ?_⟩
          refine OPH.take 9 rfl rfl rfl rfl (by kernel_rfl) (by kernel_rfl) (by kernel_rfl) rfl (by exact H) (fun w H => Ev.add rfl rfl (by unfold fits; omega)) ?_
          refine OPH.all [1, 3] (by kernel_rfl) (by simp) rfl ?_
          intro i hi; simp only [List.mem_cons, List.not_mem_nil, or_false] at hi
          rcases hi with rfl | rfl
          · refine ⟨_, rfl, ?_⟩
            try replace E := E.toBelow hbw14
            refine OPS.val rfl rfl rfl (Ev.load1 (agg_run rfl) rfl (by exact E.ldL 1 rfl 0 rfl)) ?_
            refine OPS.nil ?_
            refine ⟨(by exact H), ?_⟩
            refine OPH.all [3] (by kernel_rfl) (by simp) rfl ?_
            intro i hi; simp only [List.mem_cons, List.not_mem_nil, or_false] at hi
            rcases hi with rfl
            · refine ⟨_, rfl, ?_⟩
              try replace E := E.toBelow hbw14
              refine OPS.buildSlice rfl rfl rfl rfl (bsl_26_1_0 rfl) E ?_
              clear H E; intro g51 w E
              have H := E.drop (L' := [⟨g9, 48, [I ns[j].node, I ns[j].move]⟩]) one2
              refine OPS.nil ?_
              refine ⟨(by exact H), ?_⟩
              refine OPH.all [4] (by kernel_rfl) (by simp) rfl ?_
              intro i hi; simp only [List.mem_cons, List.not_mem_nil, or_false] at hi
              rcases hi with rfl
              · refine ⟨_, rfl, ?_⟩
                refine OPS.append (m := 1) (news := needCells ns[j]) (R := [⟨g51, 48, [I ns[j].node, I ns[j].move]⟩, ⟨g9, 48, [I ns[j].node, I ns[j].move]⟩, ⟨g5, 60, tskC Ac Ab none (colN (ns.take j)).length (briN (ns.take j)).length 0 kc kb 0 cp (movC (ns.take j)).sum (movD (ns.take j)).sum⟩, ⟨g2, 60, tskC none none none 0 0 0 0 0 0 0 0 0⟩, ⟨g1, 28, [I m, .slice A l.length ca, .slice B ts.length cb, .slice (some ⟨b, o, none⟩) ns.length cc, I hd]⟩] ++ Lb) rfl rfl rfl rfl rfl (sl_run rfl) rfl rfl hOc rfl (src_own E 0 rfl) rfl (by omega) (by unfold maxLen; omega) E pm1 ?_
                clear H E hOc; intro Ac2 kc2 Lc2 w hOc E
                have H := E.drop (L' := [⟨g9, 48, [I ns[j].node, I ns[j].move]⟩]) one2
                refine OPS.nil ?_
                refine ⟨(by exact H), ?_⟩
                refine OPH.take 10 rfl rfl rfl rfl (by kernel_rfl) (by kernel_rfl) (by kernel_rfl) rfl (by exact H) (fun w H => Ev.fieldAddr (fld_run rfl) rfl) ?_
                refine OPH.all [11] (by kernel_rfl) (by simp) rfl ?_
                intro i hi; simp only [List.mem_cons, List.not_mem_nil, or_false] at hi
                rcases hi with rfl
                · refine ⟨_, rfl, ?_⟩
                  unfold tskC at E
                  refine OPS.store 2 _ rfl rfl rfl (size_run rfl) rfl (cS rfl) rfl rfl E rfl (by simp) ?_
                  clear H E; intro w E
                  simp only [List.set_cons_zero, List.set_cons_succ, List.cons_append, List.nil_append, putL] at E
                  have H := E.drop (L' := [⟨g9, 48, [I ns[j].node, I ns[j].move]⟩]) one2
                  refine OPS.nil ?_
                  refine ⟨(by exact H), ?_⟩
                  refine OPH.take 12 rfl rfl rfl rfl (by kernel_rfl) (by kernel_rfl) (by kernel_rfl) rfl (by exact H) (fun w H => Ev.fieldAddr (fld_run rfl) rfl) ?_
                  refine OPH.all [13] (by kernel_rfl) (by simp) rfl ?_
                  intro i hi; simp only [List.mem_cons, List.not_mem_nil, or_false] at hi
                  rcases hi with rfl
                  · refine ⟨_, rfl, ?_⟩
                    refine OPS.store 2 _ rfl rfl rfl (size_run rfl) rfl (cI rfl) rfl rfl E rfl (by simp) ?_
                    clear H E; intro w E
                    simp only [List.set_cons_zero, List.set_cons_succ, List.cons_append, List.nil_append, putL] at E
                    have H := E.drop (L' := [⟨g9, 48, [I ns[j].node, I ns[j].move]⟩]) one2
                    refine OPS.nil ?_
                    refine ⟨(by exact H), ?_⟩
                    refine OPH.done (by kernel_rfl) ?_
                    exact ⟨(by repeat (first | exact Agree.refl _ _ | exact Agree.mix _ _ _ | refine Agree.upd rfl ?_ | refine Agree.mix2 rfl ?_)), _, _, _, hOc, pm3 E⟩
          · refine ⟨_, rfl, ?_⟩
            try replace E := E.toBelow hbw14
            refine OPS.buildSlice rfl rfl rfl rfl (bsl_26_1_0 rfl) E ?_
            clear H E; intro g51 w E
            have H := E.drop (L' := [⟨g9, 48, [I ns[j].node, I ns[j].move]⟩]) one2
            refine OPS.nil ?_
            refine ⟨(by exact H), ?_⟩
            refine OPH.all [1] (by kernel_rfl) (by simp) rfl ?_
            intro i hi; simp only [List.mem_cons, List.not_mem_nil, or_false] at hi
            rcases hi with rfl
            · refine ⟨_, rfl, ?_⟩
              try replace E := E.toBelow hbw14
              refine OPS.val rfl rfl rfl (Ev.load1 (agg_run rfl) rfl (by exact E.ldL 2 rfl 0 rfl)) ?_
              refine OPS.nil ?_
              refine ⟨(by exact H), ?_⟩
              refine OPH.all [4] (by kernel_rfl) (by simp) rfl ?_
              intro i hi; simp only [List.mem_cons, List.not_mem_nil, or_false] at hi
              rcases hi with rfl
              · refine ⟨_, rfl, ?_⟩
                refine OPS.append (m := 1) (news := needCells ns[j]) (R := [⟨g51, 48, [I ns[j].node, I ns[j].move]⟩, ⟨g9, 48, [I ns[j].node, I ns[j].move]⟩, ⟨g5, 60, tskC Ac Ab none (colN (ns.take j)).length (briN (ns.take j)).length 0 kc kb 0 cp (movC (ns.take j)).sum (movD (ns.take j)).sum⟩, ⟨g2, 60, tskC none none none 0 0 0 0 0 0 0 0 0⟩, ⟨g1, 28, [I m, .slice A l.length ca, .slice B ts.length cb, .slice (some ⟨b, o, none⟩) ns.length cc, I hd]⟩] ++ Lb) rfl rfl rfl rfl rfl (sl_run rfl) rfl rfl hOc rfl (src_own E 0 rfl) rfl (by omega) (by unfold maxLen; omega) E pm1 ?_
                clear H E hOc; intro Ac2 kc2 Lc2 w hOc E
                have H := E.drop (L' := [⟨g9, 48, [I ns[j].node, I ns[j].move]⟩]) one2
                refine OPS.nil ?_
                refine ⟨(by exact H), ?_⟩
                refine OPH.take 10 rfl rfl rfl rfl (by kernel_rfl) (by kernel_rfl) (by kernel_rfl) rfl (by exact H) (fun w H => Ev.fieldAddr (fld_run rfl) rfl) ?_
                refine OPH.all [11] (by kernel_rfl) (by simp) rfl ?_
                intro i hi; simp only [List.mem_cons, List.not_mem_nil, or_false] at hi
                rcases hi with rfl
                · refine ⟨_, rfl, ?_⟩
                  unfold tskC at E
                  refine OPS.store 2 _ rfl rfl rfl (size_run rfl) rfl (cS rfl) rfl rfl E rfl (by simp) ?_
                  clear H E; intro w E
                  simp only [List.set_cons_zero, List.set_cons_succ, List.cons_append, List.nil_append, putL] at E
                  have H := E.drop (L' := [⟨g9, 48, [I ns[j].node, I ns[j].move]⟩]) one2
                  refine OPS.nil ?_
                  refine ⟨(by exact H), ?_⟩
                  refine OPH.take 12 rfl rfl rfl rfl (by kernel_rfl) (by kernel_rfl) (by kernel_rfl) rfl (by exact H) (fun w H => Ev.fieldAddr (fld_run rfl) rfl) ?_
                  refine OPH.all [13] (by kernel_rfl) (by simp) rfl ?_
                  intro i hi; simp only [List.mem_cons, List.not_mem_nil, or_false] at hi
                  rcases hi with rfl
                  · refine ⟨_, rfl, ?_⟩
                    refine OPS.store 2 _ rfl rfl rfl (size_run rfl) rfl (cI rfl) rfl rfl E rfl (by simp) ?_
                    clear H E; intro w E
                    simp only [List.set_cons_zero, List.set_cons_succ, List.cons_append, List.nil_append, putL] at E
                    have H := E.drop (L' := [⟨g9, 48, [I ns[j].node, I ns[j].move]⟩]) one2
                    refine OPS.nil ?_
                    refine ⟨(by exact H), ?_⟩
                    refine OPH.done (by kernel_rfl) ?_
                    exact ⟨(by repeat (first | exact Agree.refl _ _ | exact Agree.mix _ _ _ | refine Agree.upd rfl ?_ | refine Agree.mix2 rfl ?_)), _, _, _, hOc, pm3 E⟩
      clear H
      rintro u w ⟨Ac, kc, Lc, hOc, H⟩
      have hOc' : OwnS Ac kc (colN (ns.take (j + 1))).length ((colN (ns.take (j + 1))).flatMap needCells) 48 2 Lc := by rw [e1, List.length_append, List.flatMap_append]; simpa using hOc
      have hOb' : OwnS Ab kb (briN (ns.take (j + 1))).length ((briN (ns.take (j + 1))).flatMap needCells) 48 2 Lb := by rw [e2]; exact hOb
      have s1 : (movC (ns.take (j + 1))).sum = (movC (ns.take j)).sum + ns[j].move := by unfold movC; rw [e1, List.map_append, List.sum_append]; simp
      have s2 : (movD (ns.take (j + 1))).sum = (movD (ns.take j)).sum := by unfold movD; rw [e2]
      have l1' : (colN (ns.take (j + 1))).length = (colN (ns.take j)).length + 1 := by rw [e1]; simp
      have l2' : (briN (ns.take (j + 1))).length = (briN (ns.take j)).length := by rw [e2]
      rw [← s1, ← s2, ← l1', ← l2'] at H
      clear hOc hOb
      refine WP.region ?_
      refine OPS.val rfl rfl rfl (Ev.add rfl rfl (by unfold fits; omega)) ?_
      refine OPS.val rfl rfl rfl (Ev.mvI rfl) ?_
      refine OPS.nil ?_
      exact ⟨(by repeat (first | exact Agree.refl _ _ | exact Agree.mix _ _ _ | refine Agree.upd rfl ?_ | refine Agree.mix2 rfl ?_)), k - 1, by omega, j + 1, Ac, Ab, kc, kb, Lc, Lb, by omega, rfl, hOc', hOb', H⟩
    have hpos : ¬ 0 < ns[j].move := by simpa using hc13
    have e1 : colN (ns.take (j + 1)) = colN (ns.take j) := by unfold colN; rw [filt_take hlt, if_neg (by simpa using hpos), List.append_nil]
    have e2 : briN (ns.take (j + 1)) = briN (ns.take j) ++ [ns[j]] := by unfold briN; rw [filt_take hlt, if_pos (by simpa using hpos)]
    have E := H
    replace H := H.drop (L' := [⟨g9, 48, [I ns[j].node, I ns[j].move]⟩]) (List.Sublist.cons_cons _ (List.nil_sublist _))
    refine WP.rheldC [60, 61, 62, 63, 64, 65, 66, 67, 68, 69, 70, 71] (fun _ w' => ∃ (Ab : Option Addr) (kb : Nat) (Lb : List Blk), OwnS Ab kb ((briN (ns.take j)).length + 1) ((briN (ns.take j)).flatMap needCells ++ needCells ns[j]) 48 2 Lb ∧ SH w0 [] w' ([⟨g5, 60, tskC Ac Ab none (colN (ns.take j)).length ((briN (ns.take j)).length + 1) 0 kc kb 0 cp (movC (ns.take j)).sum ((movD (ns.take j)).sum - ns[j].move)⟩, ⟨g2, 60, tskC none none none 0 0 0 0 0 0 0 0 0⟩, ⟨g1, 28, [I m, .slice A l.length ca, .slice B ts.length cb, .slice (some ⟨b, o, none⟩) ns.length cc, I hd]⟩] ++ (Lc ++ Lb))) mixed H ?_ ?_
    · clear H; intro w hbw15 H
      refine OPH.take 0 rfl rfl rfl rfl (by kernel_rfl) (by kernel_rfl) (by kernel_rfl) rfl (by exact H) (fun w H => Ev.fieldAddr (fld_run rfl) rfl) ?_
      refine OPH.take 2 rfl rfl rfl rfl (by kernel_rfl) (by kernel_rfl) (by kernel_rfl) rfl (by exact H) (fun w H => (by exact Ev.loadO 0 H rfl (agg_run rfl) (size_run rfl) (by rfl) rfl)) ?_
      refine OPH.take 5 rfl rfl rfl rfl (by kernel_rfl) (by kernel_rfl) (by kernel_rfl) rfl (by exact H) (fun w H => Ev.fieldAddr (fld_run rfl) rfl) ?_
      refine OPH.take 7 rfl rfl rfl rfl (by kernel_rfl) (by kernel_rfl) (by kernel_rfl) rfl (by exact H) (fun w H => Ev.fieldAddr (fld_run rfl) rfl) ?_
      refine OPH.take 8 rfl rfl rfl rfl (by kernel_rfl) (by kernel_rfl) (by kernel_rfl) rfl (by exact H) (fun w H => Ev.load1 (agg_run rfl) rfl (by exact H.ldL 0 rfl _ rfl)) ?_
      refine OPH.all [1, 3, 6] (by kernel_rfl) (by simp) rfl ?_
      intro i hi; simp only [List.mem_cons, List.not_mem_nil, or_false] at hi
      rcases hi with rfl | rfl | rfl
      · refine ⟨_, rfl, ?_⟩
        try replace E := E.toBelow hbw15
        refine OPS.val rfl rfl rfl (Ev.load1 (agg_run rfl) rfl (by exact E.ldL 1 rfl 1 rfl)) ?_
        refine OPS.nil ?_
        refine ⟨(by exact H), ?_⟩
        refine OPH.all [3, 6] (by kernel_rfl) (by simp) rfl ?_
        intro i hi; simp only [List.mem_cons, List.not_mem_nil, or_false] at hi
        rcases hi with rfl | rfl
        · refine ⟨_, rfl, ?_⟩
          try replace E := E.toBelow hbw15
          refine OPS.buildSlice rfl rfl rfl rfl (bsl_26_1_0 rfl) E ?_
          clear H E; intro g63 w E
          have H := E.drop (L' := [⟨g9, 48, [I ns[j].node, I ns[j].move]⟩]) one2
          refine OPS.nil ?_
          refine ⟨(by exact H), ?_⟩
          refine OPH.all [4, 6] (by kernel_rfl) (by simp) rfl ?_
          intro i hi; simp only [List.mem_cons, List.not_mem_nil, or_false] at hi
          rcases hi with rfl | rfl
          · refine ⟨_, rfl, ?_⟩
            refine OPS.append (m := 1) (news := needCells ns[j]) (R := [⟨g63, 48, [I ns[j].node, I ns[j].move]⟩, ⟨g9, 48, [I ns[j].node, I ns[j].move]⟩, ⟨g5, 60, tskC Ac Ab none (colN (ns.take j)).length (briN (ns.take j)).length 0 kc kb 0 cp (movC (ns.take j)).sum (movD (ns.take j)).sum⟩, ⟨g2, 60, tskC none none none 0 0 0 0 0 0 0 0 0⟩, ⟨g1, 28, [I m, .slice A l.length ca, .slice B ts.length cb, .slice (some ⟨b, o, none⟩) ns.length cc, I hd]⟩] ++ Lc) rfl rfl rfl rfl rfl (sl_run rfl) rfl rfl hOb rfl (src_own E 0 rfl) rfl (by omega) (by unfold maxLen; omega) E pm2 ?_
            clear H E hOb; intro Ab2 kb2 Lb2 w hOb E
            have H := E.drop (L' := [⟨g9, 48, [I ns[j].node, I ns[j].move]⟩]) one2
            refine OPS.nil ?_
            refine ⟨(by exact H), ?_⟩
            refine OPH.all [6] (by kernel_rfl) (by simp) rfl ?_
            intro i hi; simp only [List.mem_cons, List.not_mem_nil, or_false] at hi
            rcases hi with rfl
            · refine ⟨_, rfl, ?_⟩
              try replace E := E.toBelow hbw15
              refine OPS.val rfl rfl rfl (Ev.load1 (agg_run rfl) rfl (by exact E.ldL 2 rfl 5 rfl)) ?_
              refine OPS.nil ?_
              refine ⟨(by exact H), ?_⟩
              refine OPH.take 9 rfl rfl rfl rfl (by kernel_rfl) (by kernel_rfl) (by kernel_rfl) rfl (by exact H) (fun w H => Ev.sub rfl rfl (by unfold fits; omega)) ?_
              refine OPH.take 10 rfl rfl rfl rfl (by kernel_rfl) (by kernel_rfl) (by kernel_rfl) rfl (by exact H) (fun w H => Ev.fieldAddr (fld_run rfl) rfl) ?_
              refine OPH.all [11] (by kernel_rfl) (by simp) rfl ?_
              intro i hi; simp only [List.mem_cons, List.not_mem_nil, or_false] at hi
              rcases hi with rfl
              · refine ⟨_, rfl, ?_⟩
                unfold tskC at E
                refine OPS.store 2 _ rfl rfl rfl (size_run rfl) rfl (cS rfl) rfl rfl E rfl (by simp) ?_
                clear H E; intro w E
                simp only [List.set_cons_zero, List.set_cons_succ, List.cons_append, List.nil_append, putL] at E
                have H := E.drop (L' := [⟨g9, 48, [I ns[j].node, I ns[j].move]⟩]) one2
                refine OPS.nil ?_
                refine ⟨(by exact H), ?_⟩
                refine OPH.take 12 rfl rfl rfl rfl (by kernel_rfl) (by kernel_rfl) (by kernel_rfl) rfl (by exact H) (fun w H => Ev.fieldAddr (fld_run rfl) rfl) ?_
                refine OPH.all [13] (by kernel_rfl) (by simp) rfl ?_
                intro i hi; simp only [List.mem_cons, List.not_mem_nil, or_false] at hi
                rcases hi with rfl
                · refine ⟨_, rfl, ?_⟩
                  refine OPS.store 2 _ rfl rfl rfl (size_run rfl) rfl (cI rfl) rfl rfl E rfl (by simp) ?_
                  clear H E; intro w E
                  simp only [List.set_cons_zero, List.set_cons_succ, List.cons_append, List.nil_append, putL] at E
                  have H := E.drop (L' := [⟨g9, 48, [I ns[j].node, I ns[j].move]⟩]) one2
                  refine OPS.nil ?_
                  refine ⟨(by exact H), ?_⟩
                  refine OPH.done (by kernel_rfl) ?_
                  exact ⟨(by repeat (first | exact Agree.refl _ _ | exact Agree.mix _ _ _ | refine Agree.upd rfl ?_ | refine Agree.mix2 rfl ?_)), _, _, _, hOb, pm4 E⟩
          · refine ⟨_, rfl, ?_⟩
            try replace E := E.toBelow hbw15
            refine OPS.val rfl rfl rfl (Ev.load1 (agg_run rfl) rfl (by exact E.ldL 2 rfl 5 rfl)) ?_
            refine OPS.nil ?_
            refine ⟨(by exact H), ?_⟩
            refine OPH.take 9 rfl rfl rfl rfl (by kernel_rfl) (by kernel_rfl) (by kernel_rfl) rfl (by exact H) (fun w H => Ev.sub rfl rfl (by unfold fits; omega)) ?_
            refine OPH.all [4] (by kernel_rfl) (by simp) rfl ?_
            intro i hi; simp only [List.mem_cons, List.not_mem_nil, or_false] at hi
            rcases hi with rfl
            · refine ⟨_, rfl, ?_⟩
              refine OPS.append (m := 1) (news := needCells ns[j]) (R := [⟨g63, 48, [I ns[j].node, I ns[j].move]⟩, ⟨g9, 48, [I ns[j].node, I ns[j].move]⟩, ⟨g5, 60, tskC Ac Ab none (colN (ns.take j)).length (briN (ns.take j)).length 0 kc kb 0 cp (movC (ns.take j)).sum (movD (ns.take j)).sum⟩, ⟨g2, 60, tskC none none none 0 0 0 0 0 0 0 0 0⟩, ⟨g1, 28, [I m, .slice A l.length ca, .slice B ts.length cb, .slice (some ⟨b, o, none⟩) ns.length cc, I hd]⟩] ++ Lc) rfl rfl rfl rfl rfl (sl_run rfl) rfl rfl hOb rfl (src_own E 0 rfl) rfl (by omega) (by unfold maxLen; omega) E pm2 ?_
              clear H E hOb; intro Ab2 kb2 Lb2 w hOb E
              have H := E.drop (L' := [⟨g9, 48, [I ns[j].node, I ns[j].move]⟩]) one2
              refine OPS.nil ?_
              refine ⟨(by exact H), ?_⟩
              refine OPH.take 10 rfl rfl rfl rfl (by kernel_rfl) (by kernel_rfl) (by kernel_rfl) rfl (by exact H) (fun w H => Ev.fieldAddr (fld_run rfl) rfl) ?_
              refine OPH.all [11] (by kernel_rfl) (by simp) rfl ?_
              intro i hi; simp only [List.mem_cons, List.not_mem_nil, or_false] at hi
              rcases hi with rfl
              · refine ⟨_, rfl, ?_⟩
                unfold tskC at E
                refine OPS.store 2 _ rfl rfl rfl (size_run rfl) rfl (cS rfl) rfl rfl E rfl (by simp) ?_
                clear H E; intro w E
                simp only [List.set_cons_zero, List.set_cons_succ, List.cons_append, List.nil_append, putL] at E
                have H := E.drop (L' := [⟨g9, 48, [I ns[j].node, I ns[j].move]⟩]) one2
                refine OPS.nil ?_
                refine ⟨(by exact H), ?_⟩
                refine OPH.take 12 rfl rfl rfl rfl (by kernel_rfl) (by kernel_rfl) (by kernel_rfl) rfl (by exact H) (fun w H => Ev.fieldAddr (fld_run rfl) rfl) ?_
                refine OPH.all [13] (by kernel_rfl) (by simp) rfl ?_
                intro i hi; simp only [List.mem_cons, List.not_mem_nil, or_false] at hi
                rcases hi with rfl
                · refine ⟨_, rfl, ?_⟩
                  refine OPS.store 2 _ rfl rfl rfl (size_run rfl) rfl (cI rfl) rfl rfl E rfl (by simp) ?_
                  clear H E; intro w E
                  simp only [List.set_cons_zero, List.set_cons_succ, List.cons_append, List.nil_append, putL] at E
                  have H := E.drop (L' := [⟨g9, 48, [I ns[j].node, I ns[j].move]⟩]) one2
                  refine OPS.nil ?_
                  refine ⟨(by exact H), ?_⟩
                  refine OPH.done (by kernel_rfl) ?_
                  exact ⟨(by repeat (first | exact Agree.refl _ _ | exact Agree.mix _ _ _ | refine Agree.upd rfl ?_ | refine Agree.mix2 rfl ?_)), _, _, _, hOb, pm4 E⟩
        · refine ⟨_, rfl, ?_⟩
          try replace E := E.toBelow hbw15
          refine OPS.val rfl rfl rfl (Ev.load1 (agg_run rfl) rfl (by exact E.ldL 1 rfl 5 rfl)) ?_
          refine OPS.nil ?_
          refine ⟨(by exact H), ?_⟩
          refine OPH.take 9 rfl rfl rfl rfl (by kernel_rfl) (by kernel_rfl) (by kernel_rfl) rfl (by exact H) (fun w H => Ev.sub rfl rfl (by unfold fits; omega)) ?_
          refine OPH.all [3] (by kernel_rfl) (by simp) rfl ?_
          intro i hi; simp only [List.mem_cons, List.not_mem_nil, or_false] at hi
          rcases hi with rfl
          · refine ⟨_, rfl, ?_⟩
            try replace E := E.toBelow hbw15
            refine OPS.buildSlice rfl rfl rfl rfl (bsl_26_1_0 rfl) E ?_
            clear H E; intro g63 w E
            have H := E.drop (L' := [⟨g9, 48, [I ns[j].node, I ns[j].move]⟩]) one2
            refine OPS.nil ?_
            refine ⟨(by exact H), ?_⟩
            refine OPH.all [4] (by kernel_rfl) (by simp) rfl ?_
            intro i hi; simp only [List.mem_cons, List.not_mem_nil, or_false] at hi
            rcases hi with rfl
            · refine ⟨_, rfl, ?_⟩
              refine OPS.append (m := 1) (news := needCells ns[j]) (R := [⟨g63, 48, [I ns[j].node, I ns[j].move]⟩, ⟨g9, 48, [I ns[j].node, I ns[j].move]⟩, ⟨g5, 60, tskC Ac Ab none (colN (ns.take j)).length (briN (ns.take j)).length 0 kc kb 0 cp (movC (ns.take j)).sum (movD (ns.take j)).sum⟩, ⟨g2, 60, tskC none none none 0 0 0 0 0 0 0 0 0⟩, ⟨g1, 28, [I m, .slice A l.length ca, .slice B ts.length cb, .slice (some ⟨b, o, none⟩) ns.length cc, I hd]⟩] ++ Lc) rfl rfl rfl rfl rfl (sl_run rfl) rfl rfl hOb rfl (src_own E 0 rfl) rfl (by omega) (by unfold maxLen; omega) E pm2 ?_
              clear H E hOb; intro Ab2 kb2 Lb2 w hOb E
              have H := E.drop (L' := [⟨g9, 48, [I ns[j].node, I ns[j].move]⟩]) one2
              refine OPS.nil ?_
              refine ⟨(by exact H), ?_⟩
              refine OPH.take 10 rfl rfl rfl rfl (by kernel_rfl) (by kernel_rfl) (by kernel_rfl) rfl (by exact H) (fun w H => Ev.fieldAddr (fld_run rfl) rfl) ?_
              refine OPH.all [11] (by kernel_rfl) (by simp) rfl ?_
              intro i hi; simp only [List.mem_cons, List.not_mem_nil, or_false] at hi
              rcases hi with rfl
              · refine ⟨_, rfl, ?_⟩
                unfold tskC at E
                refine OPS.store 2 _ rfl rfl rfl (size_run rfl) rfl (cS rfl) rfl rfl E rfl (by simp) ?_
                clear H E; intro w E
                simp only [List.set_cons_zero, List.set_cons_succ, List.cons_append, List.nil_append, putL] at E
                have H := E.drop (L' := [⟨g9, 48, [I ns[j].node, I ns[j].move]⟩]) one2
                refine OPS.nil ?_
                refine ⟨(by exact H), ?_⟩
                refine OPH.take 12 rfl rfl rfl rfl (by kernel_rfl) (by kernel_rfl) (by kernel_rfl) rfl (by exact H) (fun w H => Ev.fieldAddr (fld_run rfl) rfl) ?_
                refine OPH.all [13] (by kernel_rfl) (by simp) rfl ?_
                intro i hi; simp only [List.mem_cons, List.not_mem_nil, or_false] at hi
                rcases hi with rfl
                · refine ⟨_, rfl, ?_⟩
                  refine OPS.store 2 _ rfl rfl rfl (size_run rfl) rfl (cI rfl) rfl rfl E rfl (by simp) ?_
                  clear H E; intro w E
                  simp only [List.set_cons_zero, List.set_cons_succ, List.cons_append, List.nil_append, putL] at E
                  have H := E.drop (L' := [⟨g9, 48, [I ns[j].node, I ns[j].move]⟩]) one2
                  refine OPS.nil ?_
                  refine ⟨(by exact H), ?_⟩
                  refine OPH.done (by kernel_rfl) ?_
                  exact ⟨(by repeat (first | exact Agree.refl _ _ | exact Agree.mix _ _ _ | refine Agree.upd rfl ?_ | refine Agree.mix2 rfl ?_)), _, _, _, hOb, pm4 E⟩
      · refine ⟨_, rfl, ?_⟩
        try replace E := E.toBelow hbw15
        refine OPS.buildSlice rfl rfl rfl rfl (bsl_26_1_0 rfl) E ?_
        clear H E; intro g63 w E
        have H := E.drop (L' := [⟨g9, 48, [I ns[j].node, I ns[j].move]⟩]) one2
        refine OPS.nil ?_
        refine ⟨(by exact H), ?_⟩
        refine OPH.all [1, 6] (by kernel_rfl) (by simp) rfl ?_
        intro i hi; simp only [List.mem_cons, List.not_mem_nil, or_false] at hi
        rcases hi with rfl | rfl
        · refine ⟨_, rfl, ?_⟩
          try replace E := E.toBelow hbw15
          refine OPS.val rfl rfl rfl (Ev.load1 (agg_run rfl) rfl (by exact E.ldL 2 rfl 1 rfl)) ?_
          refine OPS.nil ?_
          refine ⟨(by exact H), ?_⟩
          refine OPH.all [4, 6] (by kernel_rfl) (by simp) rfl ?_
          intro i hi; simp only [List.mem_cons, List.not_mem_nil, or_false] at hi
          rcases hi with rfl | rfl
          · refine ⟨_, rfl, ?_⟩
            refine OPS.append (m := 1) (news := needCells ns[j]) (R := [⟨g63, 48, [I ns[j].node, I ns[j].move]⟩, ⟨g9, 48, [I ns[j].node, I ns[j].move]⟩, ⟨g5, 60, tskC Ac Ab none (colN (ns.take j)).length (briN (ns.take j)).length 0 kc kb 0 cp (movC (ns.take j)).sum (movD (ns.take j)).sum⟩, ⟨g2, 60, tskC none none none 0 0 0 0 0 0 0 0 0⟩, ⟨g1, 28, [I m, .slice A l.length ca, .slice B ts.length cb, .slice (some ⟨b, o, none⟩) ns.length cc, I hd]⟩] ++ Lc) rfl rfl rfl rfl rfl (sl_run rfl) rfl rfl hOb rfl (src_own E 0 rfl) rfl (by omega) (by unfold maxLen; omega) E pm2 ?_
            clear H E hOb; intro Ab2 kb2 Lb2 w hOb E
            have H := E.drop (L' := [⟨g9, 48, [I ns[j].node, I ns[j].move]⟩]) one2
            refine OPS.nil ?_
            refine ⟨(by exact H), ?_⟩
            refine OPH.all [6] (by kernel_rfl) (by simp) rfl ?_
            intro i hi; simp only [List.mem_cons, List.not_mem_nil, or_false] at hi
            rcases hi with rfl
            · refine ⟨_, rfl, ?_⟩
              try replace E := E.toBelow hbw15
              refine OPS.val rfl rfl rfl (Ev.load1 (agg_run rfl) rfl (by exact E.ldL 2 rfl 5 rfl)) ?_
              refine OPS.nil ?_
              refine ⟨(by exact H), ?_⟩
              refine OPH.take 9 rfl rfl rfl rfl (by kernel_rfl) (by kernel_rfl) (by kernel_rfl) rfl (by exact H) (fun w H => Ev.sub rfl rfl (by unfold fits; omega)) ?_
              refine OPH.take 10 rfl rfl rfl rfl (by kernel_rfl) (by kernel_rfl) (by kernel_rfl) rfl (by exact H) (fun w H => Ev.fieldAddr (fld_run rfl) rfl) ?_
              refine OPH.all [11] (by kernel_rfl) (by simp) rfl ?_
              intro i hi; simp only [List.mem_cons, List.not_mem_nil, or_false] at hi
              rcases hi with rfl
              · refine ⟨_, rfl, ?_⟩
                unfold tskC at E
                refine OPS.store 2 _ rfl rfl rfl (size_run rfl) rfl (cS rfl) rfl rfl E rfl (by simp) ?_
                clear H E; intro w E
                simp only [List.set_cons_zero, List.set_cons_succ, List.cons_append, List.nil_append, putL] at E
                have H := E.drop (L' := [⟨g9, 48, [I ns[j].node, I ns[j].move]⟩]) one2
                refine OPS.nil ?_
                refine ⟨(by exact H), ?_⟩
                refine OPH.take 12 rfl rfl rfl rfl (by kernel_rfl) (by kernel_rfl) (by kernel_rfl) rfl (by exact H) (fun w H => Ev.fieldAddr (fld_run rfl) rfl) ?_
                refine OPH.all [13] (by kernel_rfl) (by simp) rfl ?_
                intro i hi; simp only [List.mem_cons, List.not_mem_nil, or_false] at hi
                rcases hi with rfl
                · refine ⟨_, rfl, ?_⟩
                  refine OPS.store 2 _ rfl rfl rfl (size_run rfl) rfl (cI rfl) rfl rfl E rfl (by simp) ?_
                  clear H E; intro w E
                  simp only [List.set_cons_zero, List.set_cons_succ, List.cons_append, List.nil_append, putL] at E
                  have H := E.drop (L' := [⟨g9, 48, [I ns[j].node, I ns[j].move]⟩]) one2
                  refine OPS.nil ?_
                  refine ⟨(by exact H), ?_⟩
                  refine OPH.done (by kernel_rfl) ?_
                  exact ⟨(by repeat (first | exact Agree.refl _ _ | exact Agree.mix _ _ _ | refine Agree.upd rfl ?_ | refine Agree.mix2 rfl ?_)), _, _, _, hOb, pm4 E⟩
          · refine ⟨_, rfl, ?_⟩
            try replace E := E.toBelow hbw15
            refine OPS.val rfl rfl rfl (Ev.load1 (agg_run rfl) rfl (by exact E.ldL 2 rfl 5 rfl)) ?_
            refine OPS.nil ?_
            refine ⟨(by exact H), ?_⟩
            refine OPH.take 9 rfl rfl rfl rfl (by kernel_rfl) (by kernel_rfl) (by kernel_rfl) rfl (by exact H) (fun w H => Ev.sub rfl rfl (by unfold fits; omega)) ?_
            refine OPH.all [4] (by kernel_rfl) (by simp) rfl ?_
            intro i hi; simp only [List.mem_cons, List.not_mem_nil, or_false] at hi
            rcases hi with rfl
            · refine ⟨_, rfl, ?_⟩
              refine OPS.append (m := 1) (news := needCells ns[j]) (R := [⟨g63, 48, [I ns[j].node, I ns[j].move]⟩, ⟨g9, 48, [I ns[j].node, I ns[j].move]⟩, ⟨g5, 60, tskC Ac Ab none (colN (ns.take j)).length (briN (ns.take j)).length 0 kc kb 0 cp (movC (ns.take j)).sum (movD (ns.take j)).sum⟩, ⟨g2, 60, tskC none none none 0 0 0 0 0 0 0 0 0⟩, ⟨g1, 28, [I m, .slice A l.length ca, .slice B ts.length cb, .slice (some ⟨b, o, none⟩) ns.length cc, I hd]⟩] ++ Lc) rfl rfl rfl rfl rfl (sl_run rfl) rfl rfl hOb rfl (src_own E 0 rfl) rfl (by omega) (by unfold maxLen; omega) E pm2 ?_
              clear H E hOb; intro Ab2 kb2 Lb2 w hOb E
              have H := E.drop (L' := [⟨g9, 48, [I ns[j].node, I ns[j].move]⟩]) one2
              refine OPS.nil ?_
              refine ⟨(by exact H), ?_⟩
              refine OPH.take 10 rfl rfl rfl rfl (by kernel_rfl) (by kernel_rfl) (by kernel_rfl) rfl (by exact H) (fun w H => Ev.fieldAddr (fld_run rfl) rfl) ?_
              refine OPH.all [11] (by kernel_rfl) (by simp) rfl ?_
              intro i hi; simp only [List.mem_cons, List.not_mem_nil, or_false] at hi
              rcases hi with rfl
              · refine ⟨_, rfl, ?_⟩
                unfold tskC at E
                refine OPS.store 2 _ rfl rfl rfl (size_run rfl) rfl (cS rfl) rfl rfl E rfl (by simp) ?_
                clear H E; intro w E
                simp only [List.set_cons_zero, List.set_cons_succ, List.cons_append, List.nil_append, putL] at E
                have H := E.drop (L' := [⟨g9, 48, [I ns[j].node, I ns[j].move]⟩]) one2
                refine OPS.nil ?_
                refine ⟨(by exact H), ?_⟩
                refine OPH.take 12 rfl rfl rfl rfl (by kernel_rfl) (by kernel_rfl) (by kernel_rfl) rfl (by exact H) (fun w H => Ev.fieldAddr (fld_run rfl) rfl) ?_
                refine OPH.all [13] (by kernel_rfl) (by simp) rfl ?_
                intro i hi; simp only [List.mem_cons, List.not_mem_nil, or_false] at hi
                rcases hi with rfl
                · refine ⟨_, rfl, ?_⟩
                  refine OPS.store 2 _ rfl rfl rfl (size_run rfl) rfl (cI rfl) rfl rfl E rfl (by simp) ?_
                  clear H E; intro w E
                  simp only [List.set_cons_zero, List.set_cons_succ, List.cons_append, List.nil_append, putL] at E
                  have H := E.drop (L' := [⟨g9, 48, [I ns[j].node, I ns[j].move]⟩]) one2
                  refine OPS.nil ?_
                  refine ⟨(by exact H), ?_⟩
                  refine OPH.done (by kernel_rfl) ?_
                  exact ⟨(by repeat (first | exact Agree.refl _ _ | exact Agree.mix _ _ _ | refine Agree.upd rfl ?_ | refine Agree.mix2 rfl ?_)), _, _, _, hOb, pm4 E⟩
        · refine ⟨_, rfl, ?_⟩
          try replace E := E.toBelow hbw15
          refine OPS.val rfl rfl rfl (Ev.load1 (agg_run rfl) rfl (by exact E.ldL 2 rfl 5 rfl)) ?_
          refine OPS.nil ?_
          refine ⟨(by exact H), ?_⟩
          refine OPH.take 9 rfl rfl rfl rfl (by kernel_rfl) (by kernel_rfl) (by kernel_rfl) rfl (by exact H) (fun w H => Ev.sub rfl rfl (by unfold fits; omega)) ?_
          refine OPH.all [1] (by kernel_rfl) (by simp) rfl ?_
          intro i hi; simp only [List.mem_cons, List.not_mem_nil, or_false] at hi
          rcases hi with rfl
          · refine ⟨_, rfl, ?_⟩
            try replace E := E.toBelow hbw15
            refine OPS.val rfl rfl rfl (Ev.load1 (agg_run rfl) rfl (by exact E.ldL 2 rfl 1 rfl)) ?_
            refine OPS.nil ?_
            refine ⟨(by exact H), ?_⟩
            refine OPH.all [4] (by kernel_rfl) (by simp) rfl ?_
            intro i hi; simp only [List.mem_cons, List.not_mem_nil, or_false] at hi
            rcases hi with rfl
            · refine ⟨_, rfl, ?_⟩
              refine OPS.append (m := 1) (news := needCells ns[j]) (R := [⟨g63, 48, [I ns[j].node, I ns[j].move]⟩, ⟨g9, 48, [I ns[j].node, I ns[j].move]⟩, ⟨g5, 60, tskC Ac Ab none (colN (ns.take j)).length (briN (ns.take j)).length 0 kc kb 0 cp (movC (ns.take j)).sum (movD (ns.take j)).sum⟩, ⟨g2, 60, tskC none none none 0 0 0 0 0 0 0 0 0⟩, ⟨g1, 28, [I m, .slice A l.length ca, .slice B ts.length cb, .slice (some ⟨b, o, none⟩) ns.length cc, I hd]⟩] ++ Lc) rfl rfl rfl rfl rfl (sl_run rfl) rfl rfl hOb rfl (src_own E 0 rfl) rfl (by omega) (by unfold maxLen; omega) E pm2 ?_
              clear H E hOb; intro Ab2 kb2 Lb2 w hOb E
              have H := E.drop (L' := [⟨g9, 48, [I ns[j].node, I ns[j].move]⟩]) one2
              refine OPS.nil ?_
              refine ⟨(by exact H), ?_⟩
              refine OPH.take 10 rfl rfl rfl rfl (by kernel_rfl) (by kernel_rfl) (by kernel_rfl) rfl (by exact H) (fun w H => Ev.fieldAddr (fld_run rfl) rfl) ?_
              refine OPH.all [11] (by kernel_rfl) (by simp) rfl ?_
              intro i hi; simp only [List.mem_cons, List.not_mem_nil, or_false] at hi
              rcases hi with rfl
              · refine ⟨_, rfl, ?_⟩
                unfold tskC at E
                refine OPS.store 2 _ rfl rfl rfl (size_run rfl) rfl (cS rfl) rfl rfl E rfl (by simp) ?_
                clear H E; intro w E
                simp only [List.set_cons_zero, List.set_cons_succ, List.cons_append, List.nil_append, putL] at E
                have H := E.drop (L' := [⟨g9, 48, [I ns[j].node, I ns[j].move]⟩]) one2
                refine OPS.nil ?_
                refine ⟨(by exact H), ?_⟩
                refine OPH.take 12 rfl rfl rfl rfl (by kernel_rfl) (by kernel_rfl) (by kernel_rfl) rfl (by exact H) (fun w H => Ev.fieldAddr (fld_run rfl) rfl) ?_
                refine OPH.all [13] (by kernel_rfl) (by simp) rfl ?_
                intro i hi; simp only [List.mem_cons, List.not_mem_nil, or_false] at hi
                rcases hi with rfl
                · refine ⟨_, rfl, ?_⟩
                  refine OPS.store 2 _ rfl rfl rfl (size_run rfl) rfl (cI rfl) rfl rfl E rfl (by simp) ?_
                  clear H E; intro w E
                  simp only [List.set_cons_zero, List.set_cons_succ, List.cons_append, List.nil_append, putL] at E
                  have H := E.drop (L' := [⟨g9, 48, [I ns[j].node, I ns[j].move]⟩]) one2
                  refine OPS.nil ?_
                  refine ⟨(by exact H), ?_⟩
                  refine OPH.done (by kernel_rfl) ?_
                  exact ⟨(by repeat (first | exact Agree.refl _ _ | exact Agree.mix _ _ _ | refine Agree.upd rfl ?_ | refine Agree.mix2 rfl ?_)), _, _, _, hOb, pm4 E⟩
      · refine ⟨_, rfl, ?_⟩
        try replace E := E.toBelow hbw15
        refine OPS.val rfl rfl rfl (Ev.load1 (agg_run rfl) rfl (by exact E.ldL 1 rfl 5 rfl)) ?_
        refine OPS.nil ?_
        refine ⟨(by exact H), ?_⟩
        refine OPH.take 9 rfl rfl rfl rfl (by kernel_rfl) (by kernel_rfl) (by kernel_rfl) rfl (by exact H) (fun w H => Ev.sub rfl rfl (by unfold fits; omega)) ?_
        refine OPH.all [1, 3] (by kernel_rfl) (by simp) rfl ?_
        intro i hi; simp only [List.mem_cons, List.not_mem_nil, or_false] at hi
        rcases hi with rfl | rfl
        · refine ⟨_, rfl, ?_⟩
          try replace E := E.toBelow hbw15
          refine OPS.val rfl rfl rfl (Ev.load1 (agg_run rfl) rfl (by exact E.ldL 1 rfl 1 rfl)) ?_
          refine OPS.nil ?_
          refine ⟨(by exact H), ?_⟩
          refine OPH.all [3] (by kernel_rfl) (by simp) rfl ?_
          intro i hi; simp only [List.mem_cons, List.not_mem_nil, or_false] at hi
          rcases hi with rfl
          · refine ⟨_, rfl, ?_⟩
            try replace E := E.toBelow hbw15
            refine OPS.buildSlice rfl rfl rfl rfl (bsl_26_1_0 rfl) E ?_
            clear H E; intro g63 w E
            have H := E.drop (L' := [⟨g9, 48, [I ns[j].node, I ns[j].move]⟩]) one2
            refine OPS.nil ?_
            refine ⟨(by exact H), ?_⟩
            refine OPH.all [4] (by kernel_rfl) (by simp) rfl ?_
            intro i hi; simp only [List.mem_cons, List.not_mem_nil, or_false] at hi
            rcases hi with rfl
            · refine ⟨_, rfl, ?_⟩
              refine OPS.append (m := 1) (news := needCells ns[j]) (R := [⟨g63, 48, [I ns[j].node, I ns[j].move]⟩, ⟨g9, 48, [I ns[j].node, I ns[j].move]⟩, ⟨g5, 60, tskC Ac Ab none (colN (ns.take j)).length (briN (ns.take j)).length 0 kc kb 0 cp (movC (ns.take j)).sum (movD (ns.take j)).sum⟩, ⟨g2, 60, tskC none none none 0 0 0 0 0 0 0 0 0⟩, ⟨g1, 28, [I m, .slice A l.length ca, .slice B ts.length cb, .slice (some ⟨b, o, none⟩) ns.length cc, I hd]⟩] ++ Lc) rfl rfl rfl rfl rfl (sl_run rfl) rfl rfl hOb rfl (src_own E 0 rfl) rfl (by omega) (by unfold maxLen; omega) E pm2 ?_
              clear H E hOb; intro Ab2 kb2 Lb2 w hOb E
              have H := E.drop (L' := [⟨g9, 48, [I ns[j].node, I ns[j].move]⟩]) one2
              refine OPS.nil ?_
              refine ⟨(by exact H), ?_⟩
              refine OPH.take 10 rfl rfl rfl rfl (by kernel_rfl) (by kernel_rfl) (by kernel_rfl) rfl (by exact H) (fun w H => Ev.fieldAddr (fld_run rfl) rfl) ?_
              refine OPH.all [11] (by kernel_rfl) (by simp) rfl ?_
              intro i hi; simp only [List.mem_cons, List.not_mem_nil, or_false] at hi
              rcases hi with rfl
              · refine ⟨_, rfl, ?_⟩
                unfold tskC at E
                refine OPS.store 2 _ rfl rfl rfl (size_run rfl) rfl (cS rfl) rfl rfl E rfl (by simp) ?_
                clear H E; intro w E
                simp only [List.set_cons_zero, List.set_cons_succ, List.cons_append, List.nil_append, putL] at E
                have H := E.drop (L' := [⟨g9, 48, [I ns[j].node, I ns[j].move]⟩]) one2
                refine OPS.nil ?_
                refine ⟨(by exact H), ?_⟩
                refine OPH.take 12 rfl rfl rfl rfl (by kernel_rfl) (by kernel_rfl) (by kernel_rfl) rfl (by exact H) (fun w H => Ev.fieldAddr (fld_run rfl) rfl) ?_
                refine OPH.all [13] (by kernel_rfl) (by simp) rfl ?_
                intro i hi; simp only [List.mem_cons, List.not_mem_nil, or_false] at hi
                rcases hi with rfl
                · refine ⟨_, rfl, ?_⟩
                  refine OPS.store 2 _ rfl rfl rfl (size_run rfl) rfl (cI rfl) rfl rfl E rfl (by simp) ?_
                  clear H E; intro w E
                  simp only [List.set_cons_zero, List.set_cons_succ, List.cons_append, List.nil_append, putL] at E
                  have H := E.drop (L' := [⟨g9, 48, [I ns[j].node, I ns[j].move]⟩]) one2
                  refine OPS.nil ?_
                  refine ⟨(by exact H), ?_⟩
                  refine OPH.done (by kernel_rfl) ?_
                  exact ⟨(by repeat (first | exact Agree.refl _ _ | exact Agree.mix _ _ _ | refine Agree.upd rfl ?_ | refine Agree.mix2 rfl ?_)), _, _, _, hOb, pm4 E⟩
        · refine ⟨_, rfl, ?_⟩
          try replace E := E.toBelow hbw15
          refine OPS.buildSlice rfl rfl rfl rfl (bsl_26_1_0 rfl) E ?_
          clear H E; intro g63 w E
          have H := E.drop (L' := [⟨g9, 48, [I ns[j].node, I ns[j].move]⟩]) one2
          refine OPS.nil ?_
          refine ⟨(by exact H), ?_⟩
          refine OPH.all [1] (by kernel_rfl) (by simp) rfl ?_
          intro i hi; simp only [List.mem_cons, List.not_mem_nil, or_false] at hi
          rcases hi with rfl
          · refine ⟨_, rfl, ?_⟩
            try replace E := E.toBelow hbw15
            refine OPS.val rfl rfl rfl (Ev.load1 (agg_run rfl) rfl (by exact E.ldL 2 rfl 1 rfl)) ?_
            refine OPS.nil ?_
            refine ⟨(by exact H), ?_⟩
            refine OPH.all [4] (by kernel_rfl) (by simp) rfl ?_
            intro i hi; simp only [List.mem_cons, List.not_mem_nil, or_false] at hi
            rcases hi with rfl
            · refine ⟨_, rfl, ?_⟩
              refine OPS.append (m := 1) (news := needCells ns[j]) (R := [⟨g63, 48, [I ns[j].node, I ns[j].move]⟩, ⟨g9, 48, [I ns[j].node, I ns[j].move]⟩, ⟨g5, 60, tskC Ac Ab none (colN (ns.take j)).length (briN (ns.take j)).length 0 kc kb 0 cp (movC (ns.take j)).sum (movD (ns.take j)).sum⟩, ⟨g2, 60, tskC none none none 0 0 0 0 0 0 0 0 0⟩, ⟨g1, 28, [I m, .slice A l.length ca, .slice B ts.length cb, .slice (some ⟨b, o, none⟩) ns.length cc, I hd]⟩] ++ Lc) rfl rfl rfl rfl rfl (sl_run rfl) rfl rfl hOb rfl (src_own E 0 rfl) rfl (by omega) (by unfold maxLen; omega) E pm2 ?_
              clear H E hOb; intro Ab2 kb2 Lb2 w hOb E
              have H := E.drop (L' := [⟨g9, 48, [I ns[j].node, I ns[j].move]⟩]) one2
              refine OPS.nil ?_
              refine ⟨(by exact H), ?_⟩
              refine OPH.take 10 rfl rfl rfl rfl (by kernel_rfl) (by kernel_rfl) (by kernel_rfl) rfl (by exact H) (fun w H => Ev.fieldAddr (fld_run rfl) rfl) ?_
              refine OPH.all [11] (by kernel_rfl) (by simp) rfl ?_
              intro i hi; simp only [List.mem_cons, List.not_mem_nil, or_false] at hi
              rcases hi with rfl
              · refine ⟨_, rfl, ?_⟩
                unfold tskC at E
                refine OPS.store 2 _ rfl rfl rfl (size_run rfl) rfl (cS rfl) rfl rfl E rfl (by simp) ?_
                clear H E; intro w E
                simp only [List.set_cons_zero, List.set_cons_succ, List.cons_append, List.nil_append, putL] at E
                have H := E.drop (L' := [⟨g9, 48, [I ns[j].node, I ns[j].move]⟩]) one2
                refine OPS.nil ?_
                refine ⟨(by exact H), ?_⟩
                refine OPH.take 12 rfl rfl rfl rfl (by kernel_rfl) (by kernel_rfl) (by kernel_rfl) rfl (by exact H) (fun w H => Ev.fieldAddr (fld_run rfl) rfl) ?_
                refine OPH.all [13] (by kernel_rfl) (by simp) rfl ?_
                intro i hi; simp only [List.mem_cons, List.not_mem_nil, or_false] at hi
                rcases hi with rfl
                · refine ⟨_, rfl, ?_⟩
                  refine OPS.store 2 _ rfl rfl rfl (size_run rfl) rfl (cI rfl) rfl rfl E rfl (by simp) ?_
                  clear H E; intro w E
                  simp only [List.set_cons_zero, List.set_cons_succ, List.cons_append, List.nil_append, putL] at E
                  have H := E.drop (L' := [⟨g9, 48, [I ns[j].node, I ns[j].move]⟩]) one2
                  refine OPS.nil ?_
                  refine ⟨(by exact H), ?_⟩
                  refine OPH.done (by kernel_rfl) ?_
                  exact ⟨(by repeat (first | exact Agree.refl _ _ | exact Agree.mix _ _ _ | refine Agree.upd rfl ?_ | refine Agree.mix2 rfl ?_)), _, _, _, hOb, pm4 E⟩
    clear H
    rintro u w ⟨Ab, kb, Lb, hOb, H⟩
    have hOc' : OwnS Ac kc (colN (ns.take (j + 1))).length ((colN (ns.take (j + 1))).flatMap needCells) 48 2 Lc := by rw [e1]; exact hOc
    have hOb' : OwnS Ab kb (briN (ns.take (j + 1))).length ((briN (ns.take (j + 1))).flatMap needCells) 48 2 Lb := by rw [e2, List.length_append, List.flatMap_append]; simpa using hOb
    have s1 : (movC (ns.take (j + 1))).sum = (movC (ns.take j)).sum := by unfold movC; rw [e1]
    have s2 : (movD (ns.take (j + 1))).sum = (movD (ns.take j)).sum - ns[j].move := by unfold movD; rw [e2, List.map_append, List.sum_append]; simp; omega
    have l1' : (colN (ns.take (j + 1))).length = (colN (ns.take j)).length := by rw [e1]
    have l2' : (briN (ns.take (j + 1))).length = (briN (ns.take j)).length + 1 := by rw [e2]; simp
    rw [← s1, ← s2, ← l1', ← l2'] at H
    clear hOc hOb
    refine WP.region ?_
    refine OPS.val rfl rfl rfl (Ev.add rfl rfl (by unfold fits; omega)) ?_
    refine OPS.val rfl rfl rfl (Ev.mvI rfl) ?_
    refine OPS.nil ?_
    exact ⟨(by repeat (first | exact Agree.refl _ _ | exact Agree.mix _ _ _ | refine Agree.upd rfl ?_ | refine Agree.mix2 rfl ?_)), k - 1, by omega, j + 1, Ac, Ab, kc, kb, Lc, Lb, by omega, rfl, hOc', hOb', H⟩
  have hj : j = ns.length := by simp at hc11; omega
  subst hj
  rw [List.take_length] at hOc hOb H
  have hl1 : (colN ns).length ≤ ns.length := List.length_filter_le _ _
  have hl2 : (briN ns).length ≤ ns.length := List.length_filter_le _ _
  have hrd : ∀ (w0 : World) (S : List Nat) (w : World), SH w0 S w (Lc ++ Lb) → RowsAt 2 needCells w Ac (colN ns) ∧ RowsAt 2 needCells w Ab (briN ns) := fun w0 S w H =>
    ⟨(hOc.rows needCells_len (by decide) (R := Lb) (H.perm List.perm_append_comm)).1, (hOb.rows needCells_len (by decide) (R := Lc) H).1⟩
  obtain ⟨LX, hLX⟩ : ∃ LX, LX = Lc ++ Lb := ⟨_, rfl⟩
  rw [← hLX] at hrd H
  clear hLX hOc hOb
  have hkc : ∀ x ∈ colN ns, x ∈ ns := fun x hx => (List.mem_filter.1 hx).1
  have hkb : ∀ x ∈ briN ns, x ∈ ns := fun x hx => (List.mem_filter.1 hx).1
  generalize hhv : (movC ns).sum = hv at *
  generalize hwt : (movD ns).sum = wt at *
  unfold tskC at H
  refine WP.exit ?_
  refine XB.hit ?_
  refine WP.seq ?_
  refine WP.seq ?_
  refine WP.region ?_
  refine OPS.val rfl rfl rfl (Ev.fieldAddr (fld_run rfl) rfl) ?_
  refine OPS.val rfl rfl rfl (Ev.load1 (agg_run rfl) rfl (by exact H.ldL 0 rfl _ rfl)) ?_
  refine OPS.val rfl rfl rfl (Ev.len (el_run rfl) rfl) ?_
  refine OPS.val rfl rfl rfl (Ev.mvI rfl) ?_
  refine OPS.nil ?_
  refine WP.block ?_
  refine WP.loop [3, 11, 12, 13, 14, 16, 76, 77, 78, 79, 80, 81, 82, 83, 84, 85, 86, 87, 88, 89, 90, 91, 92, 93, 94, 95, 96, 97, 98, 99, 100, 101, 102, 103, 104, 105, 106, 107, 108, 109, 110, 111, 112, 113, 114] (fun k e w' => ∃ (j : Nat) (At : Option Addr) (kt : Nat) (rs : List (SlA Int)) (Lt Lr : List Blk), j + k = (colN ns).length ∧ e 76 = I j ∧ rs.length = j ∧ rs.map (·.l) = (timL m l ns).take j ∧ RowsIn rs Lr ∧ OwnS At kt j (rs.map slV) 31 1 Lt ∧ SH w0 [] w' ([⟨g5, 60, tskC Ac Ab At (colN ns).length (briN ns).length j kc kb kt cp hv wt⟩, ⟨g2, 60, tskC none none none 0 0 0 0 0 0 0 0 0⟩, ⟨g1, 28, [I m, .slice A l.length ca, .slice B ts.length cb, .slice C ns.length cc, I hd]⟩] ++ (LX ++ Lr) ++ Lt)) ((colN ns).length) (⟨0, none, 0, [], [], [], by omega, rfl, rfl, by simp, (fun r hr => by cases hr), OwnS.nil, (by rw [List.append_nil, List.append_nil]; exact H)⟩) ?_
  clear H
  rintro k u w ⟨j, At, kt, rs, Lt, Lr, hk, h76, hrl, hrm, hrI, hOt, H⟩
  refine WP.know (t := 76) h76 ?_
  refine WP.seq ?_
  refine WP.region ?_
  refine OPS.val rfl rfl rfl (Ev.lss rfl rfl) ?_
  refine OPS.nil ?_
  refine WP.seq ?_
  refine WP.cond rfl (fun hc18 => ?_) (fun hc18 => ?_)
  · have hlt : j < (colN ns).length := by simpa using hc18
    obtain ⟨hRc, hRb⟩ := hrd _ _ w (H.drop ((List.sublist_append_left _ _).trans ((List.sublist_append_right _ _).trans (List.sublist_append_left _ _))))
    obtain ⟨b, o, rfl, hc⟩ := hRc j hlt
    have hnx := hK.nd (colN ns)[j] (hkc _ (List.getElem_mem hlt))
    obtain ⟨v, hv0⟩ := Int.eq_ofNat_of_zero_le hnx.1.1
    have hvm : v < m := by omega
    obtain ⟨mv, hmv⟩ : ∃ mv, mv = (colN ns)[j].move := ⟨_, rfl⟩
    have hcd : needCells (colN ns)[j] = [I v, I mv] := by unfold needCells; rw [hv0, hmv]
    rw [hcd] at hc
    refine WP.skip ?_
    refine WP.seq ?_
    refine WP.block ?_
    refine WP.seq ?_
    refine WP.region ?_
    refine OPS.val rfl rfl rfl ((by exact Ev.indexAddr (el_run rfl) (size_run rfl) rfl rfl rfl (by omega))) ?_
    refine OPS.val rfl rfl rfl (Ev.loadN [I v, I mv] (agg_run rfl) (size_run rfl) rfl hc) ?_
    refine OPS.alloc rfl rfl rfl rfl (zero_run rfl) rfl H ?_
    clear H; intro g11 w H
    refine OPS.store 0 _ rfl rfl rfl (size_run rfl) rfl (cA rfl) rfl rfl H rfl (by simp) ?_
    clear H; intro w H; try simp only [List.set_cons_zero, List.set_cons_succ, putL, Nat.zero_add] at H
    refine OPS.nil ?_
    refine WP.seq ?_
    refine WP.region ?_
    refine OPS.val rfl rfl rfl (Ev.fieldAddr (fld_run rfl) rfl) ?_
    refine OPS.val rfl rfl rfl ((by (change Ev _ _ _ _ (Op.load 24 (Operand.tmp 81)) _; exact Ev.loadN [I m, .slice A l.length ca] (agg_run rfl) (size_run rfl) rfl ⟨H.ldL 3 rfl 0 rfl, H.ldL 3 rfl 1 rfl, trivial⟩))) ?_
    refine OPS.val rfl rfl rfl (Ev.fieldAddr (fld_run rfl) rfl) ?_
    refine OPS.val rfl rfl rfl (Ev.load1 (agg_run rfl) rfl (by exact H.ldL 0 rfl _ rfl)) ?_
    refine OPS.call (d := some 85) rfl rfl rfl (EvC.func (fun_run rfl)) (roadTimes m v A l ca w (hN.sh H).l) ?_
    rintro _ w ⟨TA, LT, rfl, hOL, Hc⟩
    refine ⟨_, rfl, ?_⟩
    replace H := SH.call (Lv := []) (by rw [List.append_nil]; exact H) Hc
    clear Hc
    obtain ⟨hte, htl'⟩ := timesOf_ok hK.road hvm
    have htn := timesL_length m l v
    rw [htl'] at hOL
    refine OPS.val rfl rfl rfl (Ev.mvT rfl) ?_
    refine OPS.val rfl rfl rfl (Ev.extract rfl rfl) ?_
    refine OPS.val rfl rfl rfl (Ev.extract rfl rfl) ?_
    refine OPS.val rfl rfl rfl (Ev.asS rfl) ?_
    refine OPS.val rfl rfl rfl (Ev.asI rfl) ?_
    refine OPS.nil ?_
    refine WP.seq ?_
    refine WP.seq ?_
    refine WP.region ?_
    refine OPS.val rfl rfl rfl (Ev.mvI rfl) ?_
    refine OPS.val rfl rfl rfl (Ev.neq rfl rfl) ?_
    refine OPS.nil ?_
    refine WP.cond rfl (fun hc21 => ?_) (fun hc21 => ?_)
    · refine WP.seq ?_
      exact absurd hc21 (by rw [hte]; simp)
    obtain ⟨LY, hLY⟩ : ∃ LY, LY = ((LX ++ Lr) ++ Lt) ++ LT := ⟨_, rfl⟩
    have hrd2 : ∀ (w : World) (R : List Blk), SH w0 [] w (R ++ LY) → RowsAt 2 needCells w Ab (briN ns) ∧ OnesAt I w TA (timesL m l v) := fun w R H => by
      refine ⟨(hrd _ _ w (H.drop ?_)).2, hOL.rd H (fun b hb => ?_)⟩
      · rw [hLY]
        exact ((List.sublist_append_left _ _).trans (List.sublist_append_left _ _)).trans ((List.sublist_append_left _ _).trans (List.sublist_append_right _ _))
      · rw [hLY]
        exact List.mem_append_right _ (List.mem_append_right _ hb)
    replace H : SH w0 [] w ([⟨g11, 48, [I v, I mv]⟩, ⟨g5, 60, tskC (some ⟨b, o, none⟩) Ab At (colN ns).length (briN ns).length j kc kb kt cp hv wt⟩, ⟨g2, 60, tskC none none none 0 0 0 0 0 0 0 0 0⟩, ⟨g1, 28, [I m, .slice A l.length ca, .slice B ts.length cb, .slice C ns.length cc, I hd]⟩] ++ LY) := by
      rw [hLY]; exact H.perm (by exact perm_by fun f => by simp <;> omega)
    rw [show (timesOf (m : Int) l (v : Int)).length = m by rw [htl', htn]]
    refine WP.skip ?_
    refine WP.seq ?_
    refine WP.region ?_
    refine OPS.val rfl rfl rfl (Ev.asS rfl) ?_
    refine OPS.nil ?_
    refine WP.seq ?_
    refine WP.seq ?_
    refine WP.region ?_
    refine OPS.val rfl rfl rfl (Ev.fieldAddr (fld_run rfl) rfl) ?_
    refine OPS.val rfl rfl rfl (Ev.load1 (agg_run rfl) rfl (by exact H.ldL 1 rfl _ rfl)) ?_
    refine OPS.val rfl rfl rfl (Ev.len (el_run rfl) rfl) ?_
    refine OPS.val rfl rfl rfl (Ev.mvI rfl) ?_
    refine OPS.nil ?_
    refine WP.block ?_
    refine WP.loop [14, 16, 95, 96, 97, 98, 99, 100, 101, 102, 103, 104, 105, 106, 107] (fun k e w' => ∃ (q : Nat) (Aq : Option Addr) (kq : Nat) (Lq : List Blk), q + k = (briN ns).length ∧ e 95 = I q ∧ e 14 = .slice Aq q kq ∧ OwnS Aq kq q ((((briN ns).take q).map fun y => roadT m l v y.node.toNat).map I) 3 1 Lq ∧ SH w0 [] w' (([⟨g11, 48, [I v, I mv]⟩, ⟨g5, 60, tskC (some ⟨b, o, none⟩) Ab At (colN ns).length (briN ns).length j kc kb kt cp hv wt⟩, ⟨g2, 60, tskC none none none 0 0 0 0 0 0 0 0 0⟩, ⟨g1, 28, [I m, .slice A l.length ca, .slice B ts.length cb, .slice C ns.length cc, I hd]⟩] ++ LY) ++ Lq)) ((briN ns).length) (⟨0, none, 0, [], by omega, rfl, rfl, OwnS.nil, (by rw [List.append_nil]; exact H)⟩) ?_
    clear H
    rintro k2 u2 w ⟨q, Aq, kq, Lq, hk2, h95, h14, hOq, H⟩
    refine WP.know (t := 95) h95 (WP.know (t := 14) h14 ?_)
    have hqn : q ≤ 16 := by omega
    refine WP.seq ?_
    refine WP.region ?_
    refine OPS.val rfl rfl rfl (Ev.lss rfl rfl) ?_
    refine OPS.nil ?_
    refine WP.seq ?_
    refine WP.cond rfl (fun hc25 => ?_) (fun hc25 => ?_)
    · have hlt2 : q < (briN ns).length := by simpa using hc25
      obtain ⟨hRb2, hRT⟩ := hrd2 w _ (H.drop (List.sublist_append_left _ _))
      obtain ⟨b2, o2, rfl, hcb⟩ := hRb2 q hlt2
      have hny := hK.nd (briN ns)[q] (hkb _ (List.getElem_mem hlt2))
      obtain ⟨v2, hv2⟩ := Int.eq_ofNat_of_zero_le hny.1.1
      have hv2m : v2 < m := by omega
      have hcd2 : needCells (briN ns)[q] = [I v2, I (briN ns)[q].move] := by unfold needCells; rw [hv2]
      rw [hcd2] at hcb
      have hv2T : (briN ns)[q].node.toNat = v2 := by omega
      refine WP.skip ?_
      refine WP.seq ?_
      refine WP.block ?_
      refine WP.seq ?_
      refine WP.region ?_
      refine OPS.val rfl rfl rfl ((by exact Ev.indexAddr (el_run rfl) (size_run rfl) rfl rfl rfl (by omega))) ?_
      refine OPS.val rfl rfl rfl (Ev.loadN [I v2, I (briN ns)[q].move] (agg_run rfl) (size_run rfl) rfl hcb) ?_
      refine OPS.alloc rfl rfl rfl rfl (zero_run rfl) rfl H ?_
      clear H; intro g16 w H
      refine OPS.store 0 _ rfl rfl rfl (size_run rfl) rfl (cA rfl) rfl rfl H rfl (by simp) ?_
      clear H; intro w H; try simp only [List.set_cons_zero, List.set_cons_succ, putL, Nat.zero_add] at H
      refine OPS.nil ?_
      obtain ⟨_, hRT⟩ := hrd2 w _ (H.drop (((List.sublist_append_left _ _).cons _)))
      obtain ⟨bT, oT, rfl, _⟩ := hRT v2 (by omega)
      have hxv := hRT.atK (show v2 < (timesL m l v).length by omega)
      rw [timesL_at] at hxv
      have htk2 : (briN ns).take (q + 1) = (briN ns).take q ++ [(briN ns)[q]] := List.take_succ_eq_append_getElem hlt2
      refine WP.region ?_
      refine OPS.val rfl rfl rfl (Ev.mvS rfl) ?_
      refine OPS.val rfl rfl rfl (Ev.mvS rfl) ?_
      refine OPS.val rfl rfl rfl (Ev.fieldAddr (fld_run rfl) rfl) ?_
      refine OPS.val rfl rfl rfl (Ev.load1 (agg_run rfl) rfl (by exact H.ldL 0 rfl _ rfl)) ?_
      refine OPS.val rfl rfl rfl ((by exact Ev.indexAddr1 (el_run rfl) (size_run rfl) rfl rfl rfl (by omega))) ?_
      refine OPS.val rfl rfl rfl (Ev.load1 (agg_run rfl) rfl (by assumption)) ?_
      refine OPS.buildSlice rfl rfl rfl rfl (bsl_31_1_0 rfl) H ?_
      clear H; intro g105 w H
      refine OPS.append (m := 1) (news := [I (roadT m l v v2)]) (R := [⟨g105, 3, [I (roadT m l v v2)]⟩, ⟨g16, 48, [I v2, I (briN ns)[q].move]⟩, ⟨g11, 48, [I v, I mv]⟩, ⟨g5, 60, tskC (some ⟨b, o, none⟩) (some ⟨b2, o2, none⟩) At (colN ns).length (briN ns).length j kc kb kt cp hv wt⟩, ⟨g2, 60, tskC none none none 0 0 0 0 0 0 0 0 0⟩, ⟨g1, 28, [I m, .slice A l.length ca, .slice B ts.length cb, .slice C ns.length cc, I hd]⟩] ++ LY) rfl rfl rfl rfl rfl (sl_run rfl) rfl rfl hOq rfl (src_own H 0 rfl) rfl (by omega) (by unfold maxLen; omega) H (List.Perm.refl _) ?_
      clear H hOq; intro Aq kq Lq w hOq H
      refine OPS.val rfl rfl rfl (Ev.asS rfl) ?_
      refine OPS.nil ?_
      refine WP.region ?_
      refine OPS.val rfl rfl rfl (Ev.add rfl rfl (by unfold fits; omega)) ?_
      refine OPS.val rfl rfl rfl (Ev.mvI rfl) ?_
      refine OPS.nil ?_
      exact ⟨(by repeat (first | exact Agree.refl _ _ | exact Agree.mix _ _ _ | refine Agree.upd rfl ?_ | refine Agree.mix2 rfl ?_)), k2 - 1, by omega, q + 1, Aq, kq, Lq, by omega, rfl, rfl, (by rw [htk2, List.map_append, List.map_append]; simp only [List.map_cons, List.map_nil, hv2T]; exact hOq), H.drop (((List.Sublist.refl _).cons _).cons _)⟩
    have hq : q = (briN ns).length := by simp at hc25; omega
    subst hq
    rw [List.take_length] at hOq
    have hrow : (timL m l ns)[j]? = some ((briN ns).map fun y => roadT m l v y.node.toNat) := by
      unfold timL
      rw [List.getElem?_map, List.getElem?_eq_getElem hlt]
      simp only [Option.map_some]
      rw [show (colN ns)[j].node.toNat = v by omega]
    obtain ⟨rw_, hrw⟩ : ∃ rw_ : List Int, rw_ = (briN ns).map fun y => roadT m l v y.node.toNat := ⟨_, rfl⟩
    have hrwl : rw_.length = (briN ns).length := by rw [hrw]; simp
    rw [← hrw] at hOq hrow
    rw [← hrwl] at hOq
    unfold tskC at H
    refine WP.exit ?_
    refine XB.hit ?_
    refine WP.region ?_
    refine OPS.val rfl rfl rfl (Ev.fieldAddr (fld_run rfl) rfl) ?_
    refine OPS.val rfl rfl rfl (Ev.load1 (agg_run rfl) rfl (by exact H.ldL 1 rfl _ rfl)) ?_
    refine OPS.val rfl rfl rfl (Ev.mvS rfl) ?_
    refine OPS.buildSlice rfl rfl rfl rfl (bsl_58_1_0 rfl) H ?_
    clear H; intro g111 w H
    have hsub : ([⟨g111, 31, [slV ⟨Aq, kq, rw_⟩]⟩, ⟨g11, 48, [I v, I mv]⟩, ⟨g5, 60, tskC (some ⟨b, o, none⟩) Ab At (colN ns).length (briN ns).length j kc kb kt cp hv wt⟩, ⟨g2, 60, tskC none none none 0 0 0 0 0 0 0 0 0⟩, ⟨g1, 28, [I m, .slice A l.length ca, .slice B ts.length cb, .slice C ns.length cc, I hd]⟩] ++ (LX ++ (Lr ++ Lq)) ++ Lt ++ LT : List Blk).Perm (([⟨g111, 31, [slV ⟨Aq, kq, rw_⟩]⟩, ⟨g11, 48, [I v, I mv]⟩, ⟨g5, 60, tskC (some ⟨b, o, none⟩) Ab At (colN ns).length (briN ns).length j kc kb kt cp hv wt⟩, ⟨g2, 60, tskC none none none 0 0 0 0 0 0 0 0 0⟩, ⟨g1, 28, [I m, .slice A l.length ca, .slice B ts.length cb, .slice C ns.length cc, I hd]⟩] ++ (LX ++ (Lr ++ Lq)) ++ LT) ++ Lt) := perm_by fun f => by simp <;> omega
    replace H : SH w0 [] w ([⟨g111, 31, [slV ⟨Aq, kq, rw_⟩]⟩, ⟨g11, 48, [I v, I mv]⟩, ⟨g5, 60, tskC (some ⟨b, o, none⟩) Ab At (colN ns).length (briN ns).length j kc kb kt cp hv wt⟩, ⟨g2, 60, tskC none none none 0 0 0 0 0 0 0 0 0⟩, ⟨g1, 28, [I m, .slice A l.length ca, .slice B ts.length cb, .slice C ns.length cc, I hd]⟩] ++ (LX ++ (Lr ++ Lq)) ++ Lt ++ LT) := by
      rw [hLY] at H
      unfold tskC slV
      rw [hrwl]
      exact H.perm (by exact perm_by fun f => by simp <;> omega)
    refine OPS.append (m := 1) (news := [slV ⟨Aq, kq, rw_⟩]) (R := [⟨g111, 31, [slV ⟨Aq, kq, rw_⟩]⟩, ⟨g11, 48, [I v, I mv]⟩, ⟨g5, 60, tskC (some ⟨b, o, none⟩) Ab At (colN ns).length (briN ns).length j kc kb kt cp hv wt⟩, ⟨g2, 60, tskC none none none 0 0 0 0 0 0 0 0 0⟩, ⟨g1, 28, [I m, .slice A l.length ca, .slice B ts.length cb, .slice C ns.length cc, I hd]⟩] ++ (LX ++ (Lr ++ Lq)) ++ LT) rfl rfl rfl rfl rfl (sl_run rfl) rfl rfl hOt rfl (src_own H 0 rfl) rfl (by omega) (by unfold maxLen; omega) H hsub ?_
    clear H hsub hOt; intro At2 kt2 Lt2 w hOt H
    unfold tskC at H
    simp only [List.cons_append, List.nil_append] at H
    refine OPS.val rfl rfl rfl (Ev.fieldAddr (fld_run rfl) rfl) ?_
    refine OPS.store 2 _ rfl rfl rfl (size_run rfl) rfl (cS rfl) rfl rfl H rfl (by simp) ?_
    clear H; intro w H; try simp only [List.set_cons_zero, List.set_cons_succ, putL, Nat.zero_add] at H
    refine OPS.nil ?_
    refine WP.region ?_
    refine OPS.val rfl rfl rfl (Ev.add rfl rfl (by unfold fits; omega)) ?_
    refine OPS.val rfl rfl rfl (Ev.mvI rfl) ?_
    refine OPS.nil ?_
    have hI2 : RowsIn (rs ++ [⟨Aq, kq, rw_⟩]) (Lr ++ Lq) := fun r hr => by
      rcases List.mem_append.1 hr with hr | hr
      · exact hrI.mono (fun b hb => List.mem_append_left _ hb) r hr
      · simp at hr; subst hr
        exact OwnS.rowIn (A := Aq) (l := rw_) hOq |>.imp id fun ⟨g, sp, h1, h2⟩ => ⟨g, sp, h1, List.mem_append_right _ h2⟩
    refine ⟨(by repeat (first | exact Agree.refl _ _ | exact Agree.mix _ _ _ | refine Agree.upd rfl ?_ | refine Agree.mix2 rfl ?_)), k - 1, by omega, j + 1, At2, kt2, rs ++ [⟨Aq, kq, rw_⟩], Lt2, Lr ++ Lq, by omega, rfl, by simp [hrl], ?_, hI2, (by rw [List.map_append]; exact hOt), ?_⟩
    · rw [List.map_append, hrm]
      have hjl : j < (timL m l ns).length := by unfold timL; rw [List.length_map]; exact hlt
      rw [List.take_succ_eq_append_getElem hjl]
      rw [List.getElem?_eq_getElem hjl] at hrow
      simp at hrow
      simp [hrow]
    · exact fin1 H
  have hj : j = (colN ns).length := by simp at hc18; omega
  subst hj
  have htl2 : (timL m l ns).length = (colN ns).length := by unfold timL; simp
  rw [← htl2, List.take_length] at hrm
  unfold tskC at H
  simp only [List.cons_append, List.nil_append] at H
  refine WP.exit ?_
  refine XB.hit ?_
  refine WP.seq ?_
  refine WP.region ?_
  refine OPS.val rfl rfl rfl ((by exact Ev.loadO 0 H rfl (agg_run rfl) (size_run rfl) (by rfl) rfl)) ?_
  refine OPS.store 1 _ rfl rfl rfl (size_run rfl) rfl (cA rfl) rfl rfl H rfl (by simp) ?_
  clear H; intro w H; try simp only [List.set_cons_zero, List.set_cons_succ, putL, Nat.zero_add] at H
  refine OPS.val rfl rfl rfl (Ev.asI rfl) ?_
  refine OPS.nil ?_
  refine WP.ret ⟨[_, _], ⟨(by exact resCellA 1 H rfl (agg_run rfl) (size_run rfl) (by rfl) rfl), rfl, trivial⟩, ?_⟩
  have H2 : SH w0 [] w ([_, _, _] ++ ((LX ++ Lr) ++ Lt)) := H
  refine ⟨fun h => absurd h0 h, fun _ => ⟨m, Ac, Ab, At, rs, kc, kb, kt, (LX ++ Lr) ++ Lt, rfl, hrm, fun w0 S w H => ?_, ?_, H2.drop (List.sublist_append_right _ _)⟩⟩
  · obtain ⟨hRc, hRb⟩ := hrd _ _ w (H.drop ((List.sublist_append_left _ _).trans (List.sublist_append_left _ _)))
    exact ⟨hRc, hRb, (hOt.ones H).1, hrI.ints (H.drop ((List.sublist_append_right _ _).trans (List.sublist_append_left _ _)))⟩
  · rw [hrl]; rfl
end Go.Proofs.Ytgjfjbphngamgaa
