/-
 jbO: read (the task of a night).
-/
import Derived.Test.YtgcokllbophkkaaGreatT22
import Derived.Test.YtgcokllbophkkaaGreatFT14
import Derived.Test.YtgcokllbophkkaaGreatPtr
set_option linter.all false
set_option maxHeartbeats 4000000
namespace Go.Proofs.YtgcokllbophkkaaGreat
open Go Go.W Go.RowKit
def jaC (ns : List z6) : List z6 := ns.filter fun x => decide (0 < x.move)
def jaD (ns : List z6) : List z6 := ns.filter fun x => !decide (0 < x.move)
def jbg (ns : List z6) : List Int := (jaC ns).map (·.move)
def jao (ns : List z6) : List Int := (jaD ns).map fun x => -x.move
def jbx (ts : List q9) : Int := ts.foldl (fun c t => if c < t.cap then t.cap else c) 0
noncomputable def jct (m : Nat) (l : List Edg) (ns : List z6) : List (List Int) := (jaC ns).map fun x => (jaD ns).map fun y => x9 m l x.node.toNat y.node.toNat
def slV (r : SlA Int) : Value := .slice r.A r.l.length r.cap
structure jeB (w : World) (Ac Ab At : Option Addr) (cs bs : List z6) (rs : List (SlA Int)) : Prop where
 c : k8 2 j8 w Ac cs
 b : k8 2 j8 w Ab bs
 t : jaa slV w At rs
 r : ∀ r ∈ rs, k9 w r.A r.l
theorem jeB.below {w w' : World} {Ac Ab At : Option Addr} {cs bs : List z6} {rs : List (SlA Int)} (h : jeB w Ac Ab At cs bs rs) (hb : Below w.heap.size w w') : jeB w' Ac Ab At cs bs rs :=
 ⟨h.c.below hb, h.b.below hb, h.t.below hb, fun r hr => (h.r r hr).below hb⟩
def Reads (L : List Blk) (P : World → Prop) : Prop := ∀ (w0 : World) (S : List Nat) (w : World), SH w0 S w L → P w
theorem Reads.at {L L' : List Blk} {P : World → Prop} (h : Reads L P) {w0 w : World} {S : List Nat} (H : SH w0 S w L') (hs : L.Sublist L') : P w := h _ _ _ (H.drop hs)
def RowsIn (rs : List (SlA Int)) (L : List Blk) : Prop := ∀ r ∈ rs, (r.A = none ∧ r.l = []) ∨ ∃ g sp, r.A = some ⟨g, 0, none⟩ ∧ (⟨g, 3, r.l.map I ++ sp⟩ : Blk) ∈ L
theorem RowsIn.mono {rs : List (SlA Int)} {L L' : List Blk} (h : RowsIn rs L) (hs : ∀ b ∈ L, b ∈ L') : RowsIn rs L' := fun r hr => by
 rcases h r hr with h1 | ⟨g, sp, h1, h2⟩
 ·exact .inl h1
 ·exact .inr ⟨g, sp, h1, hs _ h2⟩
theorem RowsIn.ints {rs : List (SlA Int)} {L : List Blk} {w0 w : World} {S : List Nat} (h : RowsIn rs L) (H : SH w0 S w L) : ∀ r ∈ rs, k9 w r.A r.l := fun r hr => by
 rcases h r hr with ⟨h1, h2⟩ | ⟨g, sp, h1, h2⟩
 ·rw [h1, h2]; exact jaa.nil
 ·obtain ⟨i, hi⟩ := List.getElem?_of_mem h2
  rw [h1]
  exact jaa.own (b := ⟨g, 3, r.l.map I ++ sp⟩) H i hi rfl
theorem OwnS.rowIn {A : Option Addr} {cap n : Nat} {l : List Int} {Lo : List Blk} (h : OwnS A cap n (l.map I) 3 1 Lo) : (A = none ∧ l = []) ∨ ∃ g sp, A = some ⟨g, 0, none⟩ ∧ (⟨g, 3, l.map I ++ sp⟩ : Blk) ∈ Lo := by
 have hl := h.len
 rcases h.form with ⟨h1, h2, _, _⟩ | ⟨g, sp, h1, h2, _⟩
 ·refine .inl ⟨h1, ?_⟩
  rw [h2] at hl
  exact List.length_eq_zero_iff.1 (by simpa using hl)
 ·exact .inr ⟨g, sp, h1, by rw [h2]; simp⟩
theorem jd1 {ts : List q9} {j : Nat} (h : j < ts.length) : jbx (ts.take (j + 1)) = if jbx (ts.take j) < ts[j].cap then ts[j].cap else jbx (ts.take j) := by
 unfold jbx; rw [List.take_succ_eq_append_getElem h, List.foldl_append]; rfl
theorem jcw {α : Type} {p : α → Bool} {l : List α} {j : Nat} (h : j < l.length) : (l.take (j + 1)).filter p = (l.take j).filter p ++ if p l[j] = true then [l[j]] else [] := by
 rw [List.take_succ_eq_append_getElem h, List.filter_append]
 by_cases hp : p l[j] = true <;> simp [hp]
theorem jd5 {α : Type} {p : α → Bool} {l : List α} {j : Nat} : ((l.take j).filter p).length ≤ l.length := Nat.le_trans (List.length_filter_le _ _) (List.length_take_le' _ _)
theorem jnn {l : List Int} {c : Int} (h : ∀ x ∈ l, 0 ≤ x ∧ x ≤ c) : 0 ≤ l.sum ∧ l.sum ≤ c * l.length := by
 induction l with
 | nil => simp
 | cons a l ih =>
  have := ih fun x hx => h x (List.mem_cons_of_mem _ hx)
  have := h a (by simp)
  simp only [List.sum_cons, List.length_cons]
  rw [show c * ((l.length + 1 : Nat) : Int) = c * l.length + c by rw [Int.natCast_add, Int.mul_add]; simp]
  omega
theorem pm1 {a b c d e : Blk} {Lc Lb : List Blk} : (a :: b :: ([c, d, e] ++ (Lc ++ Lb))).Perm (([a, b, c, d, e] ++ Lb) ++ Lc) := jbf fun f => by simp <;> omega
theorem pm2 {a b c d e : Blk} {Lc Lb : List Blk} : (a :: b :: ([c, d, e] ++ (Lc ++ Lb))).Perm (([a, b, c, d, e] ++ Lc) ++ Lb) := jbf fun f => by simp <;> omega
theorem pm3 {a b c d e : Blk} {Lc Lb : List Blk} {w0 w : World} (h : SH w0 [] w (a :: b :: c :: d :: e :: (Lb ++ Lc))) : SH w0 [] w ([c, d, e] ++ (Lc ++ Lb)) :=
 (h.drop (((List.Sublist.refl _).cons _).cons _)).perm (jbf fun f => by simp <;> omega)
theorem pm4 {a b c d e : Blk} {Lc Lb : List Blk} {w0 w : World} (h : SH w0 [] w (a :: b :: c :: d :: e :: (Lc ++ Lb))) : SH w0 [] w ([c, d, e] ++ (Lc ++ Lb)) :=
 h.drop (((List.Sublist.refl _).cons _).cons _)
theorem jbN {a b : Blk} {X : List Blk} : ([b] : List Blk).Sublist (a :: b :: X) := List.Sublist.cons _ (List.Sublist.cons_cons _ Y.sn)
theorem movC_bd {m : Nat} {l : List Edg} {ts : List q9} {ns : List z6} {hd : Int} (hK : jbU m l ts ns hd) (j : Nat) : 0 ≤ (jbg (ns.take j)).sum ∧ (jbg (ns.take j)).sum ≤ 512 := by
 have h := jnn (l := jbg (ns.take j)) (c := 32) fun x hx => by
  obtain ⟨y, hy, rfl⟩ := List.mem_map.1 hx
  obtain ⟨h1, h2⟩ := List.mem_filter.1 hy
  have := hK.nd y (List.mem_of_mem_take h1)
  simp at h2; omega
 have h2 : (jbg (ns.take j)).length ≤ ns.length := by unfold jbg jaC; rw [List.length_map]; exact jd5
 have := hK.nl
 omega
theorem movD_bd {m : Nat} {l : List Edg} {ts : List q9} {ns : List z6} {hd : Int} (hK : jbU m l ts ns hd) (j : Nat) : 0 ≤ (jao (ns.take j)).sum ∧ (jao (ns.take j)).sum ≤ 512 := by
 have h := jnn (l := jao (ns.take j)) (c := 32) fun x hx => by
  obtain ⟨y, hy, rfl⟩ := List.mem_map.1 hx
  obtain ⟨h1, h2⟩ := List.mem_filter.1 hy
  have := hK.nd y (List.mem_of_mem_take h1)
  simp at h2; omega
 have h2 : (jao (ns.take j)).length ≤ ns.length := by unfold jao jaD; rw [List.length_map]; exact jd5
 have := hK.nl
 omega
theorem jlV (ns : List z6) (j : Nat) : (jaC (ns.take j)).length ≤ ns.length := jd5
theorem jmR (ns : List z6) (j : Nat) : (jaD (ns.take j)).length ≤ ns.length := jd5
theorem fin1 {a b c d e : Blk} {X Y Z : List Blk} {w0 w : World} (h : SH w0 [] w (a :: b :: c :: d :: e :: (X ++ Y ++ Z))) : SH w0 [] w ([c, d, e] ++ X ++ Z) := by
 refine h.drop ?_
 rw [List.append_assoc]
 refine ((List.Sublist.append (List.Sublist.refl [c, d, e]) (List.Sublist.append (List.sublist_append_left X Y) (List.Sublist.refl Z))).cons _).cons _
def jaH (Ac Ab At : Option Addr) (nc nb nt cc cb ct : Nat) (cp hv wt : Int) : List Value := [.slice Ac nc cc, .slice Ab nb cb, .slice At nt ct, I cp, I hv, I wt]
set_option maxRecDepth 20000 in
theorem jgT (n hd : Int) (A B C : Option Addr) (l : List Edg) (ts : List q9) (ns : List z6) (ca cb cc : Nat) (w0 : World) (hN : jaE w0 A B C l ts ns cc) :
  Calls Tryz.prog 64 #[.agg #[I n, .slice A l.length ca, .slice B ts.length cb, .slice C ns.length cc, I hd]] w0 fun e w' =>
   (q7 n l ts ns hd ≠ 0 → e = .returned (.tuple #[.agg (jaH none none none 0 0 0 0 0 0 0 0 0).toArray, I (q7 n l ts ns hd)]) ∧ Below w0.heap.size w0 w') ∧
   (q7 n l ts ns hd = 0 → ∃ (m : Nat) (Ac Ab At : Option Addr) (rs : List (SlA Int)) (kc kb kt : Nat) (L : List Blk), n = m ∧ rs.map (·.l) = jct m l ns ∧ Reads L (fun w => jeB w Ac Ab At (jaC ns) (jaD ns) rs) ∧
    e = .returned (.tuple #[.agg (jaH Ac Ab At (jaC ns).length (jaD ns).length rs.length kc kb kt (jbx ts) (jbg ns).sum (jao ns).sum).toArray, I 0]) ∧ SH w0 [] w' L) := by
 have H := SH.refl w0
 refine Calls.ofWPc Tryz.func64 rfl Tryz.results64 Tryz.ntmps64 rfl<|Y.qr<|Y.bx (cA rfl) H ?_
 clear H; intro g1 w H
 refine Y.al H rfl rfl ?_
 clear H; intro g2 w H
 refine Y.bz rfl<|Y.qq<|Y.O H 1 rfl<|Y.cl 18 rfl (jcA n hd A B C l ts ns ca cb cc w (hN.sh H).l (hN.sh H).t (hN.sh H).n hN.c) H ?_
 clear H; intro w H
 refine Y.bz rfl<|Y.qr<|Y.a rfl<|Y.V rfl<|Y.z ?_
 refine Y.i rfl (fun hc2 => ?_) fun hc2 => ?_
 ·refine Y.qr<|Y.v (Ev.build (jib (e := fun _ => .int .i64 0)))<|Y.a rfl<|Y.ss 0 H rfl (cA rfl) rfl ?_
  clear H; intro w H
  refine Y.bz rfl ?_
  refine WP.ret ⟨[_, _], ⟨(by exact x6 0 H rfl (j6 rfl) (j4 rfl) (by rfl) rfl), rfl, trivial⟩, ?_⟩
  have h : q7 n l ts ns hd ≠ 0 := by simpa using hc2
  exact ⟨fun _ => ⟨rfl, H.below⟩, fun h0 => absurd h0 h⟩
 have h0 : q7 n l ts ns hd = 0 := by simpa using hc2
 obtain ⟨m, rfl, hK⟩ := jaO h0
 have htl := hK.tl
 have hnl := hK.nl
 have hll := hK.road.len
 refine Y.k<|Y.qr<|Y.v (Ev.build (jib (e := fun _ => .int .i64 0)))<|Y.al H rfl rfl ?_
 clear H; intro g5 w H
 refine Y.ss 0 H rfl (cA rfl) rfl ?_
 clear H; intro w H
 refine Y.z ?_
 replace H : SH w0 [] w [⟨g5, 108, jaH none none none 0 0 0 0 0 0 0 0 0⟩, ⟨g2, 108, jaH none none none 0 0 0 0 0 0 0 0 0⟩, ⟨g1, 28, [I m, .slice A l.length ca, .slice B ts.length cb, .slice C ns.length cc, I hd]⟩] := H
 refine Y.qq<|Y.W H 2 rfl<|Y.E rfl<|Y.a rfl<|Y.z<|WP.block<|WP.loop [7, 27, 28, 29, 30, 31, 32, 33, 34, 35, 36, 37] (fun k e w' => ∃ (j : Nat), j + k = ts.length ∧ e 27 = I j ∧ 0 ≤ jbx (ts.take j) ∧ jbx (ts.take j) ≤ 32 ∧ SH w0 [] w' [⟨g5, 108, jaH none none none 0 0 0 0 0 0 (jbx (ts.take j)) 0 0⟩, ⟨g2, 108, jaH none none none 0 0 0 0 0 0 0 0 0⟩, ⟨g1, 28, [I m, .slice A l.length ca, .slice B ts.length cb, .slice C ns.length cc, I hd]⟩]) (ts.length) (⟨0, by omega, rfl, (by simp [jbx]), (by simp [jbx]), H⟩) ?_
 clear H
 rintro k u w ⟨j, hk, h27, hc0, hc1, H⟩
 refine WP.know (t := 27) h27<|Y.qr<|Y.lt rfl<|Y.z<|Y.q ?_
 refine Y.i rfl (fun hc6 => ?_) fun hc6 => ?_
 ·have hlt : j < ts.length := by simpa using hc6
  obtain ⟨b, o, rfl, hc⟩ := hN.t j hlt
  have hc' := k7 H hc
  have htr := hK.tr ts[j] (List.getElem_mem hlt)
  refine Y.k<|Y.q<|WP.block<|Y.qr<|Y.U rfl<|Y.v (Ev.loadN (k5 ts[j]) (j6 rfl) (j4 rfl) rfl hc')<|Y.al H rfl rfl ?_
  clear H; intro g7 w H
  refine Y.ss 0 H rfl (cA rfl) rfl ?_
  clear H; intro w H
  refine Y.z ?_
  unfold jaH at H
  clear hc'
  refine Y.r<|Y.W H 1 rfl<|Y.W H 0 rfl<|Y.v (Ev.max rfl rfl)<|Y.F rfl<|Y.ss 1 H rfl (cI rfl) rfl ?_
  clear H; intro w H
  refine Y.z<|Y.r<|Y.P rfl<|Y.a rfl<|Y.z ?_
  have hs := jd1 hlt
  exact ⟨Y.ag, k - 1, by omega, j + 1, by omega, rfl, (by rw [hs]; split <;> omega), (by rw [hs]; split <;> omega), (by rw [hs]; exact H.drop Y.sc)⟩
 have hj : j = ts.length := by simp at hc6; omega
 subst hj
 rw [List.take_length] at H
 clear hc0 hc1
 generalize hcp : jbx ts = cp at *
 refine WP.exit<|XB.hit<|Y.qq<|Y.W H 2 rfl<|Y.E rfl<|Y.a rfl<|Y.z<|WP.block<|WP.loop [9, 41, 42, 43, 44, 45, 46, 47, 48, 49, 50, 51, 52, 53, 54, 55, 56, 57, 58, 59, 60, 61, 62, 63, 64, 65, 66, 67, 68, 69, 70, 71, 72] (fun k e w' => ∃ (j : Nat) (Ac Ab : Option Addr) (kc kb : Nat) (Lc Lb : List Blk), j + k = ns.length ∧ e 41 = I j ∧ OwnS Ac kc (jaC (ns.take j)).length ((jaC (ns.take j)).flatMap j8) 68 2 Lc ∧ OwnS Ab kb (jaD (ns.take j)).length ((jaD (ns.take j)).flatMap j8) 68 2 Lb ∧ SH w0 [] w' ([⟨g5, 108, jaH Ac Ab none (jaC (ns.take j)).length (jaD (ns.take j)).length 0 kc kb 0 cp (jbg (ns.take j)).sum (jao (ns.take j)).sum⟩, ⟨g2, 108, jaH none none none 0 0 0 0 0 0 0 0 0⟩, ⟨g1, 28, [I m, .slice A l.length ca, .slice B ts.length cb, .slice C ns.length cc, I hd]⟩] ++ (Lc ++ Lb))) (ns.length) (⟨0, none, none, 0, 0, [], [], by omega, rfl, OwnS.nil, OwnS.nil, (by rw [List.append_nil, List.append_nil]; exact H)⟩) ?_
 clear H
 rintro k u w ⟨j, Ac, Ab, kc, kb, Lc, Lb, hk, h41, hOc, hOb, H⟩
 refine WP.know (t := 41) h41<|Y.qr<|Y.lt rfl<|Y.z<|Y.q ?_
 refine Y.i rfl (fun hc11 => ?_) fun hc11 => ?_
 ·have hlt : j < ns.length := by simpa using hc11
  obtain ⟨b, o, rfl, hc⟩ := hN.n j hlt
  have hc' := k7 H hc
  have hnx := hK.nd ns[j] (List.getElem_mem hlt)
  have hb1 := movC_bd hK j
  have hb2 := movD_bd hK j
  have hl1 := jlV ns j
  have hl2 := jmR ns j
  refine Y.k<|Y.q<|WP.block<|Y.qr<|Y.U rfl<|Y.v (Ev.loadN (j8 ns[j]) (j6 rfl) (j4 rfl) rfl hc')<|Y.al H rfl rfl ?_
  clear H; intro g9 w H
  refine Y.ss 0 H rfl (cA rfl) rfl ?_
  clear H; intro w H
  refine Y.z<|Y.q ?_
  clear hc'
  unfold j8 at H
  refine Y.r<|Y.W H 0 rfl<|Y.v (Ev.gtr rfl rfl)<|Y.z ?_
  refine Y.i rfl (fun hc13 => ?_) fun hc13 => ?_
  ·have hpos : 0 < ns[j].move := by simpa using hc13
   have e1 : jaC (ns.take (j + 1)) = jaC (ns.take j) ++ [ns[j]] := by unfold jaC; rw [jcw hlt, if_pos (by simpa using hpos)]
   have e2 : jaD (ns.take (j + 1)) = jaD (ns.take j) := by unfold jaD; rw [jcw hlt, if_neg (by simp [hpos]), List.append_nil]
   have E := H
   replace H := H.drop (L' := [⟨g9, 68, [I ns[j].node, I ns[j].move]⟩]) (List.Sublist.cons_cons _ Y.sn)
   refine WP.rheldC [48, 49, 50, 51, 52, 53, 54, 55, 56, 57, 58, 59] (fun _ w' => ∃ (Ac : Option Addr) (kc : Nat) (Lc : List Blk), OwnS Ac kc ((jaC (ns.take j)).length + 1) ((jaC (ns.take j)).flatMap j8 ++ j8 ns[j]) 68 2 Lc ∧ SH w0 [] w' ([⟨g5, 108, jaH Ac Ab none ((jaC (ns.take j)).length + 1) (jaD (ns.take j)).length 0 kc kb 0 cp ((jbg (ns.take j)).sum + ns[j].move) (jao (ns.take j)).sum⟩, ⟨g2, 108, jaH none none none 0 0 0 0 0 0 0 0 0⟩, ⟨g1, 28, [I m, .slice A l.length ca, .slice B ts.length cb, .slice (some ⟨b, o, none⟩) ns.length cc, I hd]⟩] ++ (Lc ++ Lb))) mixed H ?_ ?_
   ·clear H; intro w hbw14 H
    refine Y.tf 0 H rfl<|Y.t 2 H rfl rfl (fun w H => Y.o H 0 rfl rfl)<|Y.tf 5 H rfl<|Y.tf 7 H rfl<|Y.tl 8 H 0 rfl ?_
    refine Y.A [1, 3, 6] rfl ⟨⟨_, rfl, ?_⟩, ⟨_, rfl, ?_⟩, ⟨_, rfl, ?_⟩, trivial⟩
    ·try replace E := E.toBelow hbw14
     refine Y.J E 1 rfl<|Y.z <| ⟨(H), ?_⟩
     refine Y.A2 3 6 rfl rfl rfl ?_ ?_
     ·try replace E := E.toBelow hbw14
      refine OPS.buildSlice rfl rfl rfl rfl (ja4 rfl) E ?_
      clear H E; intro g51 w E
      have H := E.drop (L' := [⟨g9, 68, [I ns[j].node, I ns[j].move]⟩]) jbN
      refine Y.z <| ⟨(H), ?_⟩
      refine Y.A2 4 6 rfl rfl rfl ?_ ?_
      ·refine OPS.append (m := 1) (news := j8 ns[j]) (R := [⟨g51, 68, [I ns[j].node, I ns[j].move]⟩, ⟨g9, 68, [I ns[j].node, I ns[j].move]⟩, ⟨g5, 108, jaH Ac Ab none (jaC (ns.take j)).length (jaD (ns.take j)).length 0 kc kb 0 cp (jbg (ns.take j)).sum (jao (ns.take j)).sum⟩, ⟨g2, 108, jaH none none none 0 0 0 0 0 0 0 0 0⟩, ⟨g1, 28, [I m, .slice A l.length ca, .slice B ts.length cb, .slice (some ⟨b, o, none⟩) ns.length cc, I hd]⟩] ++ Lb) rfl rfl rfl rfl rfl (z8 rfl) rfl rfl hOc rfl (y0 E 0 rfl) rfl (by omega) (by unfold maxLen; omega) E pm1 ?_
       clear H E hOc; intro Ac2 kc2 Lc2 w hOc E
       have H := E.drop (L' := [⟨g9, 68, [I ns[j].node, I ns[j].move]⟩]) jbN
       refine Y.z <| ⟨(H), ?_⟩
       refine Y.A1 6 rfl rfl ?_
       try replace E := E.toBelow hbw14
       refine Y.J E 2 rfl<|Y.z <| ⟨(H), ?_⟩
       refine Y.t 9 H rfl rfl (fun w H => Y.p rfl rfl)<|Y.tf 10 H rfl<|Y.A1 11 rfl rfl ?_
       unfold jaH at E
       refine Y.st 2 E rfl (cS rfl) rfl ?_
       clear H E; intro w E
       simp only [List.set_cons_zero, List.set_cons_succ, List.cons_append, List.nil_append, jam] at E
       have H := E.drop (L' := [⟨g9, 68, [I ns[j].node, I ns[j].move]⟩]) jbN
       refine Y.z <| ⟨(H), ?_⟩
       refine Y.tf 12 H rfl<|Y.A1 13 rfl rfl<|Y.st 2 E rfl (cI rfl) rfl ?_
       clear H E; intro w E
       simp only [List.set_cons_zero, List.set_cons_succ, List.cons_append, List.nil_append, jam] at E
       have H := E.drop (L' := [⟨g9, 68, [I ns[j].node, I ns[j].move]⟩]) jbN
       refine Y.z <| ⟨(H), ?_⟩
       refine Y.dn ?_
       exact ⟨Y.ag, _, _, _, hOc, pm3 E⟩
      ·try replace E := E.toBelow hbw14
       refine Y.J E 2 rfl<|Y.z <| ⟨(H), ?_⟩
       refine Y.t 9 H rfl rfl (fun w H => Y.p rfl rfl)<|Y.A1 4 rfl rfl<|OPS.append (m := 1) (news := j8 ns[j]) (R := [⟨g51, 68, [I ns[j].node, I ns[j].move]⟩, ⟨g9, 68, [I ns[j].node, I ns[j].move]⟩, ⟨g5, 108, jaH Ac Ab none (jaC (ns.take j)).length (jaD (ns.take j)).length 0 kc kb 0 cp (jbg (ns.take j)).sum (jao (ns.take j)).sum⟩, ⟨g2, 108, jaH none none none 0 0 0 0 0 0 0 0 0⟩, ⟨g1, 28, [I m, .slice A l.length ca, .slice B ts.length cb, .slice (some ⟨b, o, none⟩) ns.length cc, I hd]⟩] ++ Lb) rfl rfl rfl rfl rfl (z8 rfl) rfl rfl hOc rfl (y0 E 0 rfl) rfl (by omega) (by unfold maxLen; omega) E pm1 ?_
       clear H E hOc; intro Ac2 kc2 Lc2 w hOc E
       have H := E.drop (L' := [⟨g9, 68, [I ns[j].node, I ns[j].move]⟩]) jbN
       refine Y.z <| ⟨(H), ?_⟩
       refine Y.tf 10 H rfl<|Y.A1 11 rfl rfl ?_
       unfold jaH at E
       refine Y.st 2 E rfl (cS rfl) rfl ?_
       clear H E; intro w E
       simp only [List.set_cons_zero, List.set_cons_succ, List.cons_append, List.nil_append, jam] at E
       have H := E.drop (L' := [⟨g9, 68, [I ns[j].node, I ns[j].move]⟩]) jbN
       refine Y.z <| ⟨(H), ?_⟩
       refine Y.tf 12 H rfl<|Y.A1 13 rfl rfl<|Y.st 2 E rfl (cI rfl) rfl ?_
       clear H E; intro w E
       simp only [List.set_cons_zero, List.set_cons_succ, List.cons_append, List.nil_append, jam] at E
       have H := E.drop (L' := [⟨g9, 68, [I ns[j].node, I ns[j].move]⟩]) jbN
       refine Y.z <| ⟨(H), ?_⟩
       refine Y.dn ?_
       exact ⟨Y.ag, _, _, _, hOc, pm3 E⟩
     ·try replace E := E.toBelow hbw14
      refine Y.J E 1 rfl<|Y.z <| ⟨(H), ?_⟩
      refine Y.t 9 H rfl rfl (fun w H => Y.p rfl rfl)<|Y.A1 3 rfl rfl ?_
      try replace E := E.toBelow hbw14
      refine OPS.buildSlice rfl rfl rfl rfl (ja4 rfl) E ?_
      clear H E; intro g51 w E
      have H := E.drop (L' := [⟨g9, 68, [I ns[j].node, I ns[j].move]⟩]) jbN
      refine Y.z <| ⟨(H), ?_⟩
      refine Y.A1 4 rfl rfl<|OPS.append (m := 1) (news := j8 ns[j]) (R := [⟨g51, 68, [I ns[j].node, I ns[j].move]⟩, ⟨g9, 68, [I ns[j].node, I ns[j].move]⟩, ⟨g5, 108, jaH Ac Ab none (jaC (ns.take j)).length (jaD (ns.take j)).length 0 kc kb 0 cp (jbg (ns.take j)).sum (jao (ns.take j)).sum⟩, ⟨g2, 108, jaH none none none 0 0 0 0 0 0 0 0 0⟩, ⟨g1, 28, [I m, .slice A l.length ca, .slice B ts.length cb, .slice (some ⟨b, o, none⟩) ns.length cc, I hd]⟩] ++ Lb) rfl rfl rfl rfl rfl (z8 rfl) rfl rfl hOc rfl (y0 E 0 rfl) rfl (by omega) (by unfold maxLen; omega) E pm1 ?_
      clear H E hOc; intro Ac2 kc2 Lc2 w hOc E
      have H := E.drop (L' := [⟨g9, 68, [I ns[j].node, I ns[j].move]⟩]) jbN
      refine Y.z <| ⟨(H), ?_⟩
      refine Y.tf 10 H rfl<|Y.A1 11 rfl rfl ?_
      unfold jaH at E
      refine Y.st 2 E rfl (cS rfl) rfl ?_
      clear H E; intro w E
      simp only [List.set_cons_zero, List.set_cons_succ, List.cons_append, List.nil_append, jam] at E
      have H := E.drop (L' := [⟨g9, 68, [I ns[j].node, I ns[j].move]⟩]) jbN
      refine Y.z <| ⟨(H), ?_⟩
      refine Y.tf 12 H rfl<|Y.A1 13 rfl rfl<|Y.st 2 E rfl (cI rfl) rfl ?_
      clear H E; intro w E
      simp only [List.set_cons_zero, List.set_cons_succ, List.cons_append, List.nil_append, jam] at E
      have H := E.drop (L' := [⟨g9, 68, [I ns[j].node, I ns[j].move]⟩]) jbN
      refine Y.z <| ⟨(H), ?_⟩
      refine Y.dn ?_
      exact ⟨Y.ag, _, _, _, hOc, pm3 E⟩
    ·try replace E := E.toBelow hbw14
     refine OPS.buildSlice rfl rfl rfl rfl (ja4 rfl) E ?_
     clear H E; intro g51 w E
     have H := E.drop (L' := [⟨g9, 68, [I ns[j].node, I ns[j].move]⟩]) jbN
     refine Y.z <| ⟨(H), ?_⟩
     refine Y.A2 1 6 rfl rfl rfl ?_ ?_
     ·try replace E := E.toBelow hbw14
      refine Y.J E 2 rfl<|Y.z <| ⟨(H), ?_⟩
      refine Y.A2 4 6 rfl rfl rfl ?_ ?_
      ·refine OPS.append (m := 1) (news := j8 ns[j]) (R := [⟨g51, 68, [I ns[j].node, I ns[j].move]⟩, ⟨g9, 68, [I ns[j].node, I ns[j].move]⟩, ⟨g5, 108, jaH Ac Ab none (jaC (ns.take j)).length (jaD (ns.take j)).length 0 kc kb 0 cp (jbg (ns.take j)).sum (jao (ns.take j)).sum⟩, ⟨g2, 108, jaH none none none 0 0 0 0 0 0 0 0 0⟩, ⟨g1, 28, [I m, .slice A l.length ca, .slice B ts.length cb, .slice (some ⟨b, o, none⟩) ns.length cc, I hd]⟩] ++ Lb) rfl rfl rfl rfl rfl (z8 rfl) rfl rfl hOc rfl (y0 E 0 rfl) rfl (by omega) (by unfold maxLen; omega) E pm1 ?_
       clear H E hOc; intro Ac2 kc2 Lc2 w hOc E
       have H := E.drop (L' := [⟨g9, 68, [I ns[j].node, I ns[j].move]⟩]) jbN
       refine Y.z <| ⟨(H), ?_⟩
       refine Y.A1 6 rfl rfl ?_
       try replace E := E.toBelow hbw14
       refine Y.J E 2 rfl<|Y.z <| ⟨(H), ?_⟩
       refine Y.t 9 H rfl rfl (fun w H => Y.p rfl rfl)<|Y.tf 10 H rfl<|Y.A1 11 rfl rfl ?_
       unfold jaH at E
       refine Y.st 2 E rfl (cS rfl) rfl ?_
       clear H E; intro w E
       simp only [List.set_cons_zero, List.set_cons_succ, List.cons_append, List.nil_append, jam] at E
       have H := E.drop (L' := [⟨g9, 68, [I ns[j].node, I ns[j].move]⟩]) jbN
       refine Y.z <| ⟨(H), ?_⟩
       refine Y.tf 12 H rfl<|Y.A1 13 rfl rfl<|Y.st 2 E rfl (cI rfl) rfl ?_
       clear H E; intro w E
       simp only [List.set_cons_zero, List.set_cons_succ, List.cons_append, List.nil_append, jam] at E
       have H := E.drop (L' := [⟨g9, 68, [I ns[j].node, I ns[j].move]⟩]) jbN
       refine Y.z <| ⟨(H), ?_⟩
       refine Y.dn ?_
       exact ⟨Y.ag, _, _, _, hOc, pm3 E⟩
      ·try replace E := E.toBelow hbw14
       refine Y.J E 2 rfl<|Y.z <| ⟨(H), ?_⟩
       refine Y.t 9 H rfl rfl (fun w H => Y.p rfl rfl)<|Y.A1 4 rfl rfl<|OPS.append (m := 1) (news := j8 ns[j]) (R := [⟨g51, 68, [I ns[j].node, I ns[j].move]⟩, ⟨g9, 68, [I ns[j].node, I ns[j].move]⟩, ⟨g5, 108, jaH Ac Ab none (jaC (ns.take j)).length (jaD (ns.take j)).length 0 kc kb 0 cp (jbg (ns.take j)).sum (jao (ns.take j)).sum⟩, ⟨g2, 108, jaH none none none 0 0 0 0 0 0 0 0 0⟩, ⟨g1, 28, [I m, .slice A l.length ca, .slice B ts.length cb, .slice (some ⟨b, o, none⟩) ns.length cc, I hd]⟩] ++ Lb) rfl rfl rfl rfl rfl (z8 rfl) rfl rfl hOc rfl (y0 E 0 rfl) rfl (by omega) (by unfold maxLen; omega) E pm1 ?_
       clear H E hOc; intro Ac2 kc2 Lc2 w hOc E
       have H := E.drop (L' := [⟨g9, 68, [I ns[j].node, I ns[j].move]⟩]) jbN
       refine Y.z <| ⟨(H), ?_⟩
       refine Y.tf 10 H rfl<|Y.A1 11 rfl rfl ?_
       unfold jaH at E
       refine Y.st 2 E rfl (cS rfl) rfl ?_
       clear H E; intro w E
       simp only [List.set_cons_zero, List.set_cons_succ, List.cons_append, List.nil_append, jam] at E
       have H := E.drop (L' := [⟨g9, 68, [I ns[j].node, I ns[j].move]⟩]) jbN
       refine Y.z <| ⟨(H), ?_⟩
       refine Y.tf 12 H rfl<|Y.A1 13 rfl rfl<|Y.st 2 E rfl (cI rfl) rfl ?_
       clear H E; intro w E
       simp only [List.set_cons_zero, List.set_cons_succ, List.cons_append, List.nil_append, jam] at E
       have H := E.drop (L' := [⟨g9, 68, [I ns[j].node, I ns[j].move]⟩]) jbN
       refine Y.z <| ⟨(H), ?_⟩
       refine Y.dn ?_
       exact ⟨Y.ag, _, _, _, hOc, pm3 E⟩
     ·try replace E := E.toBelow hbw14
      refine Y.J E 2 rfl<|Y.z <| ⟨(H), ?_⟩
      refine Y.t 9 H rfl rfl (fun w H => Y.p rfl rfl)<|Y.A1 1 rfl rfl ?_
      try replace E := E.toBelow hbw14
      refine Y.J E 2 rfl<|Y.z <| ⟨(H), ?_⟩
      refine Y.A1 4 rfl rfl<|OPS.append (m := 1) (news := j8 ns[j]) (R := [⟨g51, 68, [I ns[j].node, I ns[j].move]⟩, ⟨g9, 68, [I ns[j].node, I ns[j].move]⟩, ⟨g5, 108, jaH Ac Ab none (jaC (ns.take j)).length (jaD (ns.take j)).length 0 kc kb 0 cp (jbg (ns.take j)).sum (jao (ns.take j)).sum⟩, ⟨g2, 108, jaH none none none 0 0 0 0 0 0 0 0 0⟩, ⟨g1, 28, [I m, .slice A l.length ca, .slice B ts.length cb, .slice (some ⟨b, o, none⟩) ns.length cc, I hd]⟩] ++ Lb) rfl rfl rfl rfl rfl (z8 rfl) rfl rfl hOc rfl (y0 E 0 rfl) rfl (by omega) (by unfold maxLen; omega) E pm1 ?_
      clear H E hOc; intro Ac2 kc2 Lc2 w hOc E
      have H := E.drop (L' := [⟨g9, 68, [I ns[j].node, I ns[j].move]⟩]) jbN
      refine Y.z <| ⟨(H), ?_⟩
      refine Y.tf 10 H rfl<|Y.A1 11 rfl rfl ?_
      unfold jaH at E
      refine Y.st 2 E rfl (cS rfl) rfl ?_
      clear H E; intro w E
      simp only [List.set_cons_zero, List.set_cons_succ, List.cons_append, List.nil_append, jam] at E
      have H := E.drop (L' := [⟨g9, 68, [I ns[j].node, I ns[j].move]⟩]) jbN
      refine Y.z <| ⟨(H), ?_⟩
      refine Y.tf 12 H rfl<|Y.A1 13 rfl rfl<|Y.st 2 E rfl (cI rfl) rfl ?_
      clear H E; intro w E
      simp only [List.set_cons_zero, List.set_cons_succ, List.cons_append, List.nil_append, jam] at E
      have H := E.drop (L' := [⟨g9, 68, [I ns[j].node, I ns[j].move]⟩]) jbN
      refine Y.z <| ⟨(H), ?_⟩
      refine Y.dn ?_
      exact ⟨Y.ag, _, _, _, hOc, pm3 E⟩
    ·try replace E := E.toBelow hbw14
     refine Y.J E 1 rfl<|Y.z <| ⟨(H), ?_⟩
     refine Y.t 9 H rfl rfl (fun w H => Y.p rfl rfl) ?_
     refine Y.A2 1 3 rfl rfl rfl ?_ ?_
     ·try replace E := E.toBelow hbw14
      refine Y.J E 1 rfl<|Y.z <| ⟨(H), ?_⟩
      refine Y.A1 3 rfl rfl ?_
      try replace E := E.toBelow hbw14
      refine OPS.buildSlice rfl rfl rfl rfl (ja4 rfl) E ?_
      clear H E; intro g51 w E
      have H := E.drop (L' := [⟨g9, 68, [I ns[j].node, I ns[j].move]⟩]) jbN
      refine Y.z <| ⟨(H), ?_⟩
      refine Y.A1 4 rfl rfl<|OPS.append (m := 1) (news := j8 ns[j]) (R := [⟨g51, 68, [I ns[j].node, I ns[j].move]⟩, ⟨g9, 68, [I ns[j].node, I ns[j].move]⟩, ⟨g5, 108, jaH Ac Ab none (jaC (ns.take j)).length (jaD (ns.take j)).length 0 kc kb 0 cp (jbg (ns.take j)).sum (jao (ns.take j)).sum⟩, ⟨g2, 108, jaH none none none 0 0 0 0 0 0 0 0 0⟩, ⟨g1, 28, [I m, .slice A l.length ca, .slice B ts.length cb, .slice (some ⟨b, o, none⟩) ns.length cc, I hd]⟩] ++ Lb) rfl rfl rfl rfl rfl (z8 rfl) rfl rfl hOc rfl (y0 E 0 rfl) rfl (by omega) (by unfold maxLen; omega) E pm1 ?_
      clear H E hOc; intro Ac2 kc2 Lc2 w hOc E
      have H := E.drop (L' := [⟨g9, 68, [I ns[j].node, I ns[j].move]⟩]) jbN
      refine Y.z <| ⟨(H), ?_⟩
      refine Y.tf 10 H rfl<|Y.A1 11 rfl rfl ?_
      unfold jaH at E
      refine Y.st 2 E rfl (cS rfl) rfl ?_
      clear H E; intro w E
      simp only [List.set_cons_zero, List.set_cons_succ, List.cons_append, List.nil_append, jam] at E
      have H := E.drop (L' := [⟨g9, 68, [I ns[j].node, I ns[j].move]⟩]) jbN
      refine Y.z <| ⟨(H), ?_⟩
      refine Y.tf 12 H rfl<|Y.A1 13 rfl rfl<|Y.st 2 E rfl (cI rfl) rfl ?_
      clear H E; intro w E
      simp only [List.set_cons_zero, List.set_cons_succ, List.cons_append, List.nil_append, jam] at E
      have H := E.drop (L' := [⟨g9, 68, [I ns[j].node, I ns[j].move]⟩]) jbN
      refine Y.z <| ⟨(H), ?_⟩
      refine Y.dn ?_
      exact ⟨Y.ag, _, _, _, hOc, pm3 E⟩
     ·try replace E := E.toBelow hbw14
      refine OPS.buildSlice rfl rfl rfl rfl (ja4 rfl) E ?_
      clear H E; intro g51 w E
      have H := E.drop (L' := [⟨g9, 68, [I ns[j].node, I ns[j].move]⟩]) jbN
      refine Y.z <| ⟨(H), ?_⟩
      refine Y.A1 1 rfl rfl ?_
      try replace E := E.toBelow hbw14
      refine Y.J E 2 rfl<|Y.z <| ⟨(H), ?_⟩
      refine Y.A1 4 rfl rfl<|OPS.append (m := 1) (news := j8 ns[j]) (R := [⟨g51, 68, [I ns[j].node, I ns[j].move]⟩, ⟨g9, 68, [I ns[j].node, I ns[j].move]⟩, ⟨g5, 108, jaH Ac Ab none (jaC (ns.take j)).length (jaD (ns.take j)).length 0 kc kb 0 cp (jbg (ns.take j)).sum (jao (ns.take j)).sum⟩, ⟨g2, 108, jaH none none none 0 0 0 0 0 0 0 0 0⟩, ⟨g1, 28, [I m, .slice A l.length ca, .slice B ts.length cb, .slice (some ⟨b, o, none⟩) ns.length cc, I hd]⟩] ++ Lb) rfl rfl rfl rfl rfl (z8 rfl) rfl rfl hOc rfl (y0 E 0 rfl) rfl (by omega) (by unfold maxLen; omega) E pm1 ?_
      clear H E hOc; intro Ac2 kc2 Lc2 w hOc E
      have H := E.drop (L' := [⟨g9, 68, [I ns[j].node, I ns[j].move]⟩]) jbN
      refine Y.z <| ⟨(H), ?_⟩
      refine Y.tf 10 H rfl<|Y.A1 11 rfl rfl ?_
      unfold jaH at E
      refine Y.st 2 E rfl (cS rfl) rfl ?_
      clear H E; intro w E
      simp only [List.set_cons_zero, List.set_cons_succ, List.cons_append, List.nil_append, jam] at E
      have H := E.drop (L' := [⟨g9, 68, [I ns[j].node, I ns[j].move]⟩]) jbN
      refine Y.z <| ⟨(H), ?_⟩
      refine Y.tf 12 H rfl<|Y.A1 13 rfl rfl<|Y.st 2 E rfl (cI rfl) rfl ?_
      clear H E; intro w E
      simp only [List.set_cons_zero, List.set_cons_succ, List.cons_append, List.nil_append, jam] at E
      have H := E.drop (L' := [⟨g9, 68, [I ns[j].node, I ns[j].move]⟩]) jbN
      refine Y.z <| ⟨(H), ?_⟩
      refine Y.dn ?_
      exact ⟨Y.ag, _, _, _, hOc, pm3 E⟩
   clear H
   rintro u w ⟨Ac, kc, Lc, hOc, H⟩
   have hOc' : OwnS Ac kc (jaC (ns.take (j + 1))).length ((jaC (ns.take (j + 1))).flatMap j8) 68 2 Lc := by rw [e1, List.length_append, List.flatMap_append]; simpa using hOc
   have hOb' : OwnS Ab kb (jaD (ns.take (j + 1))).length ((jaD (ns.take (j + 1))).flatMap j8) 68 2 Lb := by rw [e2]; exact hOb
   have s1 : (jbg (ns.take (j + 1))).sum = (jbg (ns.take j)).sum + ns[j].move := by unfold jbg; rw [e1, List.map_append, List.sum_append]; simp
   have s2 : (jao (ns.take (j + 1))).sum = (jao (ns.take j)).sum := by unfold jao; rw [e2]
   have l1' : (jaC (ns.take (j + 1))).length = (jaC (ns.take j)).length + 1 := by rw [e1]; simp
   have l2' : (jaD (ns.take (j + 1))).length = (jaD (ns.take j)).length := by rw [e2]
   rw [← s1, ← s2, ← l1', ← l2'] at H
   clear hOc hOb
   refine Y.r<|Y.P rfl<|Y.a rfl<|Y.z ?_
   exact ⟨Y.ag, k - 1, by omega, j + 1, Ac, Ab, kc, kb, Lc, Lb, by omega, rfl, hOc', hOb', H⟩
  have hpos : ¬ 0 < ns[j].move := by simpa using hc13
  have e1 : jaC (ns.take (j + 1)) = jaC (ns.take j) := by unfold jaC; rw [jcw hlt, if_neg (by simpa using hpos), List.append_nil]
  have e2 : jaD (ns.take (j + 1)) = jaD (ns.take j) ++ [ns[j]] := by unfold jaD; rw [jcw hlt, if_pos (by simpa using hpos)]
  have E := H
  replace H := H.drop (L' := [⟨g9, 68, [I ns[j].node, I ns[j].move]⟩]) (List.Sublist.cons_cons _ Y.sn)
  refine WP.rheldC [60, 61, 62, 63, 64, 65, 66, 67, 68, 69, 70, 71] (fun _ w' => ∃ (Ab : Option Addr) (kb : Nat) (Lb : List Blk), OwnS Ab kb ((jaD (ns.take j)).length + 1) ((jaD (ns.take j)).flatMap j8 ++ j8 ns[j]) 68 2 Lb ∧ SH w0 [] w' ([⟨g5, 108, jaH Ac Ab none (jaC (ns.take j)).length ((jaD (ns.take j)).length + 1) 0 kc kb 0 cp (jbg (ns.take j)).sum ((jao (ns.take j)).sum - ns[j].move)⟩, ⟨g2, 108, jaH none none none 0 0 0 0 0 0 0 0 0⟩, ⟨g1, 28, [I m, .slice A l.length ca, .slice B ts.length cb, .slice (some ⟨b, o, none⟩) ns.length cc, I hd]⟩] ++ (Lc ++ Lb))) mixed H ?_ ?_
  ·clear H; intro w hbw15 H
   refine Y.tf 0 H rfl<|Y.t 2 H rfl rfl (fun w H => Y.o H 0 rfl rfl)<|Y.tf 5 H rfl<|Y.tf 7 H rfl<|Y.tl 8 H 0 rfl ?_
   refine Y.A [1, 3, 6] rfl ⟨⟨_, rfl, ?_⟩, ⟨_, rfl, ?_⟩, ⟨_, rfl, ?_⟩, trivial⟩
   ·try replace E := E.toBelow hbw15
    refine Y.J E 1 rfl<|Y.z <| ⟨(H), ?_⟩
    refine Y.A2 3 6 rfl rfl rfl ?_ ?_
    ·try replace E := E.toBelow hbw15
     refine OPS.buildSlice rfl rfl rfl rfl (ja4 rfl) E ?_
     clear H E; intro g63 w E
     have H := E.drop (L' := [⟨g9, 68, [I ns[j].node, I ns[j].move]⟩]) jbN
     refine Y.z <| ⟨(H), ?_⟩
     refine Y.A2 4 6 rfl rfl rfl ?_ ?_
     ·refine OPS.append (m := 1) (news := j8 ns[j]) (R := [⟨g63, 68, [I ns[j].node, I ns[j].move]⟩, ⟨g9, 68, [I ns[j].node, I ns[j].move]⟩, ⟨g5, 108, jaH Ac Ab none (jaC (ns.take j)).length (jaD (ns.take j)).length 0 kc kb 0 cp (jbg (ns.take j)).sum (jao (ns.take j)).sum⟩, ⟨g2, 108, jaH none none none 0 0 0 0 0 0 0 0 0⟩, ⟨g1, 28, [I m, .slice A l.length ca, .slice B ts.length cb, .slice (some ⟨b, o, none⟩) ns.length cc, I hd]⟩] ++ Lc) rfl rfl rfl rfl rfl (z8 rfl) rfl rfl hOb rfl (y0 E 0 rfl) rfl (by omega) (by unfold maxLen; omega) E pm2 ?_
      clear H E hOb; intro Ab2 kb2 Lb2 w hOb E
      have H := E.drop (L' := [⟨g9, 68, [I ns[j].node, I ns[j].move]⟩]) jbN
      refine Y.z <| ⟨(H), ?_⟩
      refine Y.A1 6 rfl rfl ?_
      try replace E := E.toBelow hbw15
      refine Y.J E 2 rfl<|Y.z <| ⟨(H), ?_⟩
      refine Y.t 9 H rfl rfl (fun w H => Y.s rfl rfl)<|Y.tf 10 H rfl<|Y.A1 11 rfl rfl ?_
      unfold jaH at E
      refine Y.st 2 E rfl (cS rfl) rfl ?_
      clear H E; intro w E
      simp only [List.set_cons_zero, List.set_cons_succ, List.cons_append, List.nil_append, jam] at E
      have H := E.drop (L' := [⟨g9, 68, [I ns[j].node, I ns[j].move]⟩]) jbN
      refine Y.z <| ⟨(H), ?_⟩
      refine Y.tf 12 H rfl<|Y.A1 13 rfl rfl<|Y.st 2 E rfl (cI rfl) rfl ?_
      clear H E; intro w E
      simp only [List.set_cons_zero, List.set_cons_succ, List.cons_append, List.nil_append, jam] at E
      have H := E.drop (L' := [⟨g9, 68, [I ns[j].node, I ns[j].move]⟩]) jbN
      refine Y.z <| ⟨(H), ?_⟩
      refine Y.dn ?_
      exact ⟨Y.ag, _, _, _, hOb, pm4 E⟩
     ·try replace E := E.toBelow hbw15
      refine Y.J E 2 rfl<|Y.z <| ⟨(H), ?_⟩
      refine Y.t 9 H rfl rfl (fun w H => Y.s rfl rfl)<|Y.A1 4 rfl rfl<|OPS.append (m := 1) (news := j8 ns[j]) (R := [⟨g63, 68, [I ns[j].node, I ns[j].move]⟩, ⟨g9, 68, [I ns[j].node, I ns[j].move]⟩, ⟨g5, 108, jaH Ac Ab none (jaC (ns.take j)).length (jaD (ns.take j)).length 0 kc kb 0 cp (jbg (ns.take j)).sum (jao (ns.take j)).sum⟩, ⟨g2, 108, jaH none none none 0 0 0 0 0 0 0 0 0⟩, ⟨g1, 28, [I m, .slice A l.length ca, .slice B ts.length cb, .slice (some ⟨b, o, none⟩) ns.length cc, I hd]⟩] ++ Lc) rfl rfl rfl rfl rfl (z8 rfl) rfl rfl hOb rfl (y0 E 0 rfl) rfl (by omega) (by unfold maxLen; omega) E pm2 ?_
      clear H E hOb; intro Ab2 kb2 Lb2 w hOb E
      have H := E.drop (L' := [⟨g9, 68, [I ns[j].node, I ns[j].move]⟩]) jbN
      refine Y.z <| ⟨(H), ?_⟩
      refine Y.tf 10 H rfl<|Y.A1 11 rfl rfl ?_
      unfold jaH at E
      refine Y.st 2 E rfl (cS rfl) rfl ?_
      clear H E; intro w E
      simp only [List.set_cons_zero, List.set_cons_succ, List.cons_append, List.nil_append, jam] at E
      have H := E.drop (L' := [⟨g9, 68, [I ns[j].node, I ns[j].move]⟩]) jbN
      refine Y.z <| ⟨(H), ?_⟩
      refine Y.tf 12 H rfl<|Y.A1 13 rfl rfl<|Y.st 2 E rfl (cI rfl) rfl ?_
      clear H E; intro w E
      simp only [List.set_cons_zero, List.set_cons_succ, List.cons_append, List.nil_append, jam] at E
      have H := E.drop (L' := [⟨g9, 68, [I ns[j].node, I ns[j].move]⟩]) jbN
      refine Y.z <| ⟨(H), ?_⟩
      refine Y.dn ?_
      exact ⟨Y.ag, _, _, _, hOb, pm4 E⟩
    ·try replace E := E.toBelow hbw15
     refine Y.J E 1 rfl<|Y.z <| ⟨(H), ?_⟩
     refine Y.t 9 H rfl rfl (fun w H => Y.s rfl rfl)<|Y.A1 3 rfl rfl ?_
     try replace E := E.toBelow hbw15
     refine OPS.buildSlice rfl rfl rfl rfl (ja4 rfl) E ?_
     clear H E; intro g63 w E
     have H := E.drop (L' := [⟨g9, 68, [I ns[j].node, I ns[j].move]⟩]) jbN
     refine Y.z <| ⟨(H), ?_⟩
     refine Y.A1 4 rfl rfl<|OPS.append (m := 1) (news := j8 ns[j]) (R := [⟨g63, 68, [I ns[j].node, I ns[j].move]⟩, ⟨g9, 68, [I ns[j].node, I ns[j].move]⟩, ⟨g5, 108, jaH Ac Ab none (jaC (ns.take j)).length (jaD (ns.take j)).length 0 kc kb 0 cp (jbg (ns.take j)).sum (jao (ns.take j)).sum⟩, ⟨g2, 108, jaH none none none 0 0 0 0 0 0 0 0 0⟩, ⟨g1, 28, [I m, .slice A l.length ca, .slice B ts.length cb, .slice (some ⟨b, o, none⟩) ns.length cc, I hd]⟩] ++ Lc) rfl rfl rfl rfl rfl (z8 rfl) rfl rfl hOb rfl (y0 E 0 rfl) rfl (by omega) (by unfold maxLen; omega) E pm2 ?_
     clear H E hOb; intro Ab2 kb2 Lb2 w hOb E
     have H := E.drop (L' := [⟨g9, 68, [I ns[j].node, I ns[j].move]⟩]) jbN
     refine Y.z <| ⟨(H), ?_⟩
     refine Y.tf 10 H rfl<|Y.A1 11 rfl rfl ?_
     unfold jaH at E
     refine Y.st 2 E rfl (cS rfl) rfl ?_
     clear H E; intro w E
     simp only [List.set_cons_zero, List.set_cons_succ, List.cons_append, List.nil_append, jam] at E
     have H := E.drop (L' := [⟨g9, 68, [I ns[j].node, I ns[j].move]⟩]) jbN
     refine Y.z <| ⟨(H), ?_⟩
     refine Y.tf 12 H rfl<|Y.A1 13 rfl rfl<|Y.st 2 E rfl (cI rfl) rfl ?_
     clear H E; intro w E
     simp only [List.set_cons_zero, List.set_cons_succ, List.cons_append, List.nil_append, jam] at E
     have H := E.drop (L' := [⟨g9, 68, [I ns[j].node, I ns[j].move]⟩]) jbN
     refine Y.z <| ⟨(H), ?_⟩
     refine Y.dn ?_
     exact ⟨Y.ag, _, _, _, hOb, pm4 E⟩
   ·try replace E := E.toBelow hbw15
    refine OPS.buildSlice rfl rfl rfl rfl (ja4 rfl) E ?_
    clear H E; intro g63 w E
    have H := E.drop (L' := [⟨g9, 68, [I ns[j].node, I ns[j].move]⟩]) jbN
    refine Y.z <| ⟨(H), ?_⟩
    refine Y.A2 1 6 rfl rfl rfl ?_ ?_
    ·try replace E := E.toBelow hbw15
     refine Y.J E 2 rfl<|Y.z <| ⟨(H), ?_⟩
     refine Y.A2 4 6 rfl rfl rfl ?_ ?_
     ·refine OPS.append (m := 1) (news := j8 ns[j]) (R := [⟨g63, 68, [I ns[j].node, I ns[j].move]⟩, ⟨g9, 68, [I ns[j].node, I ns[j].move]⟩, ⟨g5, 108, jaH Ac Ab none (jaC (ns.take j)).length (jaD (ns.take j)).length 0 kc kb 0 cp (jbg (ns.take j)).sum (jao (ns.take j)).sum⟩, ⟨g2, 108, jaH none none none 0 0 0 0 0 0 0 0 0⟩, ⟨g1, 28, [I m, .slice A l.length ca, .slice B ts.length cb, .slice (some ⟨b, o, none⟩) ns.length cc, I hd]⟩] ++ Lc) rfl rfl rfl rfl rfl (z8 rfl) rfl rfl hOb rfl (y0 E 0 rfl) rfl (by omega) (by unfold maxLen; omega) E pm2 ?_
      clear H E hOb; intro Ab2 kb2 Lb2 w hOb E
      have H := E.drop (L' := [⟨g9, 68, [I ns[j].node, I ns[j].move]⟩]) jbN
      refine Y.z <| ⟨(H), ?_⟩
      refine Y.A1 6 rfl rfl ?_
      try replace E := E.toBelow hbw15
      refine Y.J E 2 rfl<|Y.z <| ⟨(H), ?_⟩
      refine Y.t 9 H rfl rfl (fun w H => Y.s rfl rfl)<|Y.tf 10 H rfl<|Y.A1 11 rfl rfl ?_
      unfold jaH at E
      refine Y.st 2 E rfl (cS rfl) rfl ?_
      clear H E; intro w E
      simp only [List.set_cons_zero, List.set_cons_succ, List.cons_append, List.nil_append, jam] at E
      have H := E.drop (L' := [⟨g9, 68, [I ns[j].node, I ns[j].move]⟩]) jbN
      refine Y.z <| ⟨(H), ?_⟩
      refine Y.tf 12 H rfl<|Y.A1 13 rfl rfl<|Y.st 2 E rfl (cI rfl) rfl ?_
      clear H E; intro w E
      simp only [List.set_cons_zero, List.set_cons_succ, List.cons_append, List.nil_append, jam] at E
      have H := E.drop (L' := [⟨g9, 68, [I ns[j].node, I ns[j].move]⟩]) jbN
      refine Y.z <| ⟨(H), ?_⟩
      refine Y.dn ?_
      exact ⟨Y.ag, _, _, _, hOb, pm4 E⟩
     ·try replace E := E.toBelow hbw15
      refine Y.J E 2 rfl<|Y.z <| ⟨(H), ?_⟩
      refine Y.t 9 H rfl rfl (fun w H => Y.s rfl rfl)<|Y.A1 4 rfl rfl<|OPS.append (m := 1) (news := j8 ns[j]) (R := [⟨g63, 68, [I ns[j].node, I ns[j].move]⟩, ⟨g9, 68, [I ns[j].node, I ns[j].move]⟩, ⟨g5, 108, jaH Ac Ab none (jaC (ns.take j)).length (jaD (ns.take j)).length 0 kc kb 0 cp (jbg (ns.take j)).sum (jao (ns.take j)).sum⟩, ⟨g2, 108, jaH none none none 0 0 0 0 0 0 0 0 0⟩, ⟨g1, 28, [I m, .slice A l.length ca, .slice B ts.length cb, .slice (some ⟨b, o, none⟩) ns.length cc, I hd]⟩] ++ Lc) rfl rfl rfl rfl rfl (z8 rfl) rfl rfl hOb rfl (y0 E 0 rfl) rfl (by omega) (by unfold maxLen; omega) E pm2 ?_
      clear H E hOb; intro Ab2 kb2 Lb2 w hOb E
      have H := E.drop (L' := [⟨g9, 68, [I ns[j].node, I ns[j].move]⟩]) jbN
      refine Y.z <| ⟨(H), ?_⟩
      refine Y.tf 10 H rfl<|Y.A1 11 rfl rfl ?_
      unfold jaH at E
      refine Y.st 2 E rfl (cS rfl) rfl ?_
      clear H E; intro w E
      simp only [List.set_cons_zero, List.set_cons_succ, List.cons_append, List.nil_append, jam] at E
      have H := E.drop (L' := [⟨g9, 68, [I ns[j].node, I ns[j].move]⟩]) jbN
      refine Y.z <| ⟨(H), ?_⟩
      refine Y.tf 12 H rfl<|Y.A1 13 rfl rfl<|Y.st 2 E rfl (cI rfl) rfl ?_
      clear H E; intro w E
      simp only [List.set_cons_zero, List.set_cons_succ, List.cons_append, List.nil_append, jam] at E
      have H := E.drop (L' := [⟨g9, 68, [I ns[j].node, I ns[j].move]⟩]) jbN
      refine Y.z <| ⟨(H), ?_⟩
      refine Y.dn ?_
      exact ⟨Y.ag, _, _, _, hOb, pm4 E⟩
    ·try replace E := E.toBelow hbw15
     refine Y.J E 2 rfl<|Y.z <| ⟨(H), ?_⟩
     refine Y.t 9 H rfl rfl (fun w H => Y.s rfl rfl)<|Y.A1 1 rfl rfl ?_
     try replace E := E.toBelow hbw15
     refine Y.J E 2 rfl<|Y.z <| ⟨(H), ?_⟩
     refine Y.A1 4 rfl rfl<|OPS.append (m := 1) (news := j8 ns[j]) (R := [⟨g63, 68, [I ns[j].node, I ns[j].move]⟩, ⟨g9, 68, [I ns[j].node, I ns[j].move]⟩, ⟨g5, 108, jaH Ac Ab none (jaC (ns.take j)).length (jaD (ns.take j)).length 0 kc kb 0 cp (jbg (ns.take j)).sum (jao (ns.take j)).sum⟩, ⟨g2, 108, jaH none none none 0 0 0 0 0 0 0 0 0⟩, ⟨g1, 28, [I m, .slice A l.length ca, .slice B ts.length cb, .slice (some ⟨b, o, none⟩) ns.length cc, I hd]⟩] ++ Lc) rfl rfl rfl rfl rfl (z8 rfl) rfl rfl hOb rfl (y0 E 0 rfl) rfl (by omega) (by unfold maxLen; omega) E pm2 ?_
     clear H E hOb; intro Ab2 kb2 Lb2 w hOb E
     have H := E.drop (L' := [⟨g9, 68, [I ns[j].node, I ns[j].move]⟩]) jbN
     refine Y.z <| ⟨(H), ?_⟩
     refine Y.tf 10 H rfl<|Y.A1 11 rfl rfl ?_
     unfold jaH at E
     refine Y.st 2 E rfl (cS rfl) rfl ?_
     clear H E; intro w E
     simp only [List.set_cons_zero, List.set_cons_succ, List.cons_append, List.nil_append, jam] at E
     have H := E.drop (L' := [⟨g9, 68, [I ns[j].node, I ns[j].move]⟩]) jbN
     refine Y.z <| ⟨(H), ?_⟩
     refine Y.tf 12 H rfl<|Y.A1 13 rfl rfl<|Y.st 2 E rfl (cI rfl) rfl ?_
     clear H E; intro w E
     simp only [List.set_cons_zero, List.set_cons_succ, List.cons_append, List.nil_append, jam] at E
     have H := E.drop (L' := [⟨g9, 68, [I ns[j].node, I ns[j].move]⟩]) jbN
     refine Y.z <| ⟨(H), ?_⟩
     refine Y.dn ?_
     exact ⟨Y.ag, _, _, _, hOb, pm4 E⟩
   ·try replace E := E.toBelow hbw15
    refine Y.J E 1 rfl<|Y.z <| ⟨(H), ?_⟩
    refine Y.t 9 H rfl rfl (fun w H => Y.s rfl rfl) ?_
    refine Y.A2 1 3 rfl rfl rfl ?_ ?_
    ·try replace E := E.toBelow hbw15
     refine Y.J E 1 rfl<|Y.z <| ⟨(H), ?_⟩
     refine Y.A1 3 rfl rfl ?_
     try replace E := E.toBelow hbw15
     refine OPS.buildSlice rfl rfl rfl rfl (ja4 rfl) E ?_
     clear H E; intro g63 w E
     have H := E.drop (L' := [⟨g9, 68, [I ns[j].node, I ns[j].move]⟩]) jbN
     refine Y.z <| ⟨(H), ?_⟩
     refine Y.A1 4 rfl rfl<|OPS.append (m := 1) (news := j8 ns[j]) (R := [⟨g63, 68, [I ns[j].node, I ns[j].move]⟩, ⟨g9, 68, [I ns[j].node, I ns[j].move]⟩, ⟨g5, 108, jaH Ac Ab none (jaC (ns.take j)).length (jaD (ns.take j)).length 0 kc kb 0 cp (jbg (ns.take j)).sum (jao (ns.take j)).sum⟩, ⟨g2, 108, jaH none none none 0 0 0 0 0 0 0 0 0⟩, ⟨g1, 28, [I m, .slice A l.length ca, .slice B ts.length cb, .slice (some ⟨b, o, none⟩) ns.length cc, I hd]⟩] ++ Lc) rfl rfl rfl rfl rfl (z8 rfl) rfl rfl hOb rfl (y0 E 0 rfl) rfl (by omega) (by unfold maxLen; omega) E pm2 ?_
     clear H E hOb; intro Ab2 kb2 Lb2 w hOb E
     have H := E.drop (L' := [⟨g9, 68, [I ns[j].node, I ns[j].move]⟩]) jbN
     refine Y.z <| ⟨(H), ?_⟩
     refine Y.tf 10 H rfl<|Y.A1 11 rfl rfl ?_
     unfold jaH at E
     refine Y.st 2 E rfl (cS rfl) rfl ?_
     clear H E; intro w E
     simp only [List.set_cons_zero, List.set_cons_succ, List.cons_append, List.nil_append, jam] at E
     have H := E.drop (L' := [⟨g9, 68, [I ns[j].node, I ns[j].move]⟩]) jbN
     refine Y.z <| ⟨(H), ?_⟩
     refine Y.tf 12 H rfl<|Y.A1 13 rfl rfl<|Y.st 2 E rfl (cI rfl) rfl ?_
     clear H E; intro w E
     simp only [List.set_cons_zero, List.set_cons_succ, List.cons_append, List.nil_append, jam] at E
     have H := E.drop (L' := [⟨g9, 68, [I ns[j].node, I ns[j].move]⟩]) jbN
     refine Y.z <| ⟨(H), ?_⟩
     refine Y.dn ?_
     exact ⟨Y.ag, _, _, _, hOb, pm4 E⟩
    ·try replace E := E.toBelow hbw15
     refine OPS.buildSlice rfl rfl rfl rfl (ja4 rfl) E ?_
     clear H E; intro g63 w E
     have H := E.drop (L' := [⟨g9, 68, [I ns[j].node, I ns[j].move]⟩]) jbN
     refine Y.z <| ⟨(H), ?_⟩
     refine Y.A1 1 rfl rfl ?_
     try replace E := E.toBelow hbw15
     refine Y.J E 2 rfl<|Y.z <| ⟨(H), ?_⟩
     refine Y.A1 4 rfl rfl<|OPS.append (m := 1) (news := j8 ns[j]) (R := [⟨g63, 68, [I ns[j].node, I ns[j].move]⟩, ⟨g9, 68, [I ns[j].node, I ns[j].move]⟩, ⟨g5, 108, jaH Ac Ab none (jaC (ns.take j)).length (jaD (ns.take j)).length 0 kc kb 0 cp (jbg (ns.take j)).sum (jao (ns.take j)).sum⟩, ⟨g2, 108, jaH none none none 0 0 0 0 0 0 0 0 0⟩, ⟨g1, 28, [I m, .slice A l.length ca, .slice B ts.length cb, .slice (some ⟨b, o, none⟩) ns.length cc, I hd]⟩] ++ Lc) rfl rfl rfl rfl rfl (z8 rfl) rfl rfl hOb rfl (y0 E 0 rfl) rfl (by omega) (by unfold maxLen; omega) E pm2 ?_
     clear H E hOb; intro Ab2 kb2 Lb2 w hOb E
     have H := E.drop (L' := [⟨g9, 68, [I ns[j].node, I ns[j].move]⟩]) jbN
     refine Y.z <| ⟨(H), ?_⟩
     refine Y.tf 10 H rfl<|Y.A1 11 rfl rfl ?_
     unfold jaH at E
     refine Y.st 2 E rfl (cS rfl) rfl ?_
     clear H E; intro w E
     simp only [List.set_cons_zero, List.set_cons_succ, List.cons_append, List.nil_append, jam] at E
     have H := E.drop (L' := [⟨g9, 68, [I ns[j].node, I ns[j].move]⟩]) jbN
     refine Y.z <| ⟨(H), ?_⟩
     refine Y.tf 12 H rfl<|Y.A1 13 rfl rfl<|Y.st 2 E rfl (cI rfl) rfl ?_
     clear H E; intro w E
     simp only [List.set_cons_zero, List.set_cons_succ, List.cons_append, List.nil_append, jam] at E
     have H := E.drop (L' := [⟨g9, 68, [I ns[j].node, I ns[j].move]⟩]) jbN
     refine Y.z <| ⟨(H), ?_⟩
     refine Y.dn ?_
     exact ⟨Y.ag, _, _, _, hOb, pm4 E⟩
  clear H
  rintro u w ⟨Ab, kb, Lb, hOb, H⟩
  have hOc' : OwnS Ac kc (jaC (ns.take (j + 1))).length ((jaC (ns.take (j + 1))).flatMap j8) 68 2 Lc := by rw [e1]; exact hOc
  have hOb' : OwnS Ab kb (jaD (ns.take (j + 1))).length ((jaD (ns.take (j + 1))).flatMap j8) 68 2 Lb := by rw [e2, List.length_append, List.flatMap_append]; simpa using hOb
  have s1 : (jbg (ns.take (j + 1))).sum = (jbg (ns.take j)).sum := by unfold jbg; rw [e1]
  have s2 : (jao (ns.take (j + 1))).sum = (jao (ns.take j)).sum - ns[j].move := by unfold jao; rw [e2, List.map_append, List.sum_append]; simp; omega
  have l1' : (jaC (ns.take (j + 1))).length = (jaC (ns.take j)).length := by rw [e1]
  have l2' : (jaD (ns.take (j + 1))).length = (jaD (ns.take j)).length + 1 := by rw [e2]; simp
  rw [← s1, ← s2, ← l1', ← l2'] at H
  clear hOc hOb
  refine Y.r<|Y.P rfl<|Y.a rfl<|Y.z ?_
  exact ⟨Y.ag, k - 1, by omega, j + 1, Ac, Ab, kc, kb, Lc, Lb, by omega, rfl, hOc', hOb', H⟩
 have hj : j = ns.length := by simp at hc11; omega
 subst hj
 rw [List.take_length] at hOc hOb H
 have hl1 : (jaC ns).length ≤ ns.length := List.length_filter_le _ _
 have hl2 : (jaD ns).length ≤ ns.length := List.length_filter_le _ _
 have hrd : ∀ (w0 : World) (S : List Nat) (w : World), SH w0 S w (Lc ++ Lb) → k8 2 j8 w Ac (jaC ns) ∧ k8 2 j8 w Ab (jaD ns) := fun w0 S w H =>
  ⟨(hOc.rows jdQ (by decide) (R := Lb) (H.perm List.perm_append_comm)).1, (hOb.rows jdQ (by decide) (R := Lc) H).1⟩
 obtain ⟨LX, hLX⟩ : ∃ LX, LX = Lc ++ Lb := ⟨_, rfl⟩
 rw [← hLX] at hrd H
 clear hLX hOc hOb
 have hkc : ∀ x ∈ jaC ns, x ∈ ns := fun x hx => (List.mem_filter.1 hx).1
 have hkb : ∀ x ∈ jaD ns, x ∈ ns := fun x hx => (List.mem_filter.1 hx).1
 generalize hhv : (jbg ns).sum = hv at *
 generalize hwt : (jao ns).sum = wt at *
 unfold jaH at H
 refine WP.exit<|XB.hit<|Y.qq<|Y.W H 0 rfl<|Y.E rfl<|Y.a rfl<|Y.z<|WP.block<|WP.loop [3, 11, 12, 13, 14, 16, 76, 77, 78, 79, 80, 81, 82, 83, 84, 85, 86, 87, 88, 89, 90, 91, 92, 93, 94, 95, 96, 97, 98, 99, 100, 101, 102, 103, 104, 105, 106, 107, 108, 109, 110, 111, 112, 113, 114] (fun k e w' => ∃ (j : Nat) (At : Option Addr) (kt : Nat) (rs : List (SlA Int)) (Lt Lr : List Blk), j + k = (jaC ns).length ∧ e 76 = I j ∧ rs.length = j ∧ rs.map (·.l) = (jct m l ns).take j ∧ RowsIn rs Lr ∧ OwnS At kt j (rs.map slV) 32 1 Lt ∧ SH w0 [] w' ([⟨g5, 108, jaH Ac Ab At (jaC ns).length (jaD ns).length j kc kb kt cp hv wt⟩, ⟨g2, 108, jaH none none none 0 0 0 0 0 0 0 0 0⟩, ⟨g1, 28, [I m, .slice A l.length ca, .slice B ts.length cb, .slice C ns.length cc, I hd]⟩] ++ (LX ++ Lr) ++ Lt)) ((jaC ns).length) (⟨0, none, 0, [], [], [], by omega, rfl, rfl, by simp, (fun r hr => by cases hr), OwnS.nil, (by rw [List.append_nil, List.append_nil]; exact H)⟩) ?_
 clear H
 rintro k u w ⟨j, At, kt, rs, Lt, Lr, hk, h76, hrl, hrm, hrI, hOt, H⟩
 refine WP.know (t := 76) h76<|Y.qr<|Y.lt rfl<|Y.z<|Y.q ?_
 refine Y.i rfl (fun hc18 => ?_) fun hc18 => ?_
 ·have hlt : j < (jaC ns).length := by simpa using hc18
  obtain ⟨hRc, hRb⟩ := hrd _ _ w (H.drop (Y.sl.trans (Y.sr.trans Y.sl)))
  obtain ⟨b, o, rfl, hc⟩ := hRc j hlt
  have hnx := hK.nd (jaC ns)[j] (hkc _ (List.getElem_mem hlt))
  obtain ⟨v, hv0⟩ := Int.eq_ofNat_of_zero_le hnx.1.1
  have hvm : v < m := by omega
  obtain ⟨mv, hmv⟩ : ∃ mv, mv = (jaC ns)[j].move := ⟨_, rfl⟩
  have hcd : j8 (jaC ns)[j] = [I v, I mv] := by unfold j8; rw [hv0, hmv]
  rw [hcd] at hc
  refine Y.k<|Y.q<|WP.block<|Y.qr<|Y.U rfl<|Y.v (Ev.loadN [I v, I mv] (j6 rfl) (j4 rfl) rfl hc)<|Y.al H rfl rfl ?_
  clear H; intro g11 w H
  refine Y.ss 0 H rfl (cA rfl) rfl ?_
  clear H; intro w H
  refine Y.z<|Y.qr<|Y.F rfl<|Y.v (Ev.loadN [_, _] (j6 rfl) (j4 rfl) rfl ⟨H.ldL 3 rfl _ rfl, H.ldL 3 rfl _ rfl, trivial⟩)<|Y.W H 0 rfl<|Y.c2 85 rfl (jfe m v A l ca w (hN.sh H).l) ?_
  rintro _ w ⟨TA, LT, rfl, hOL, Hc⟩
  refine ⟨_, rfl, ?_⟩
  replace H := SH.call (Lv := []) (by rw [List.append_nil]; exact H) Hc
  clear Hc
  obtain ⟨hte, htl'⟩ := jcb hK.road hvm
  have htn := jau m l v
  rw [htl'] at hOL
  refine Y.T rfl<|Y.G rfl<|Y.G rfl<|Y.aS rfl<|Y.bz rfl<|Y.qq<|Y.a rfl<|Y.V rfl<|Y.z ?_
  refine Y.i rfl (fun hc21 => ?_) fun hc21 => ?_
  ·refine Y.q ?_
   exact absurd hc21 (by rw [hte]; simp)
  obtain ⟨LY, hLY⟩ : ∃ LY, LY = ((LX ++ Lr) ++ Lt) ++ LT := ⟨_, rfl⟩
  have hrd2 : ∀ (w : World) (R : List Blk), SH w0 [] w (R ++ LY) → k8 2 j8 w Ab (jaD ns) ∧ jaa I w TA (jan m l v) := fun w R H => by
   refine ⟨(hrd _ _ w (H.drop ?_)).2, hOL.rd H (fun b hb => ?_)⟩
   ·rw [hLY]
    exact (Y.sl.trans Y.sl).trans (Y.sl.trans Y.sr)
   ·rw [hLY]
    exact List.mem_append_right _ (List.mem_append_right _ hb)
  replace H : SH w0 [] w ([⟨g11, 68, [I v, I mv]⟩, ⟨g5, 108, jaH (some ⟨b, o, none⟩) Ab At (jaC ns).length (jaD ns).length j kc kb kt cp hv wt⟩, ⟨g2, 108, jaH none none none 0 0 0 0 0 0 0 0 0⟩, ⟨g1, 28, [I m, .slice A l.length ca, .slice B ts.length cb, .slice C ns.length cc, I hd]⟩] ++ LY) := by
   rw [hLY]; exact H.perm (by exact jbf fun f => by simp <;> omega)
  rw [show (jaq (m : Int) l (v : Int)).length = m by rw [htl', htn]]
  refine Y.k<|Y.qr<|Y.aS rfl<|Y.z<|Y.qq<|Y.W H 1 rfl<|Y.E rfl<|Y.a rfl<|Y.z<|WP.block<|WP.loop [14, 16, 95, 96, 97, 98, 99, 100, 101, 102, 103, 104, 105, 106, 107] (fun k e w' => ∃ (q : Nat) (Aq : Option Addr) (kq : Nat) (Lq : List Blk), q + k = (jaD ns).length ∧ e 95 = I q ∧ e 14 = .slice Aq q kq ∧ OwnS Aq kq q ((((jaD ns).take q).map fun y => x9 m l v y.node.toNat).map I) 3 1 Lq ∧ SH w0 [] w' (([⟨g11, 68, [I v, I mv]⟩, ⟨g5, 108, jaH (some ⟨b, o, none⟩) Ab At (jaC ns).length (jaD ns).length j kc kb kt cp hv wt⟩, ⟨g2, 108, jaH none none none 0 0 0 0 0 0 0 0 0⟩, ⟨g1, 28, [I m, .slice A l.length ca, .slice B ts.length cb, .slice C ns.length cc, I hd]⟩] ++ LY) ++ Lq)) ((jaD ns).length) (⟨0, none, 0, [], by omega, rfl, rfl, OwnS.nil, (by rw [List.append_nil]; exact H)⟩) ?_
  clear H
  rintro k2 u2 w ⟨q, Aq, kq, Lq, hk2, h95, h14, hOq, H⟩
  refine WP.know (t := 95) h95 (WP.know (t := 14) h14 ?_)
  have hqn : q ≤ 16 := by omega
  refine Y.qr<|Y.lt rfl<|Y.z<|Y.q ?_
  refine Y.i rfl (fun hc25 => ?_) fun hc25 => ?_
  ·have hlt2 : q < (jaD ns).length := by simpa using hc25
   obtain ⟨hRb2, hRT⟩ := hrd2 w _ (H.drop Y.sl)
   obtain ⟨b2, o2, rfl, hcb⟩ := hRb2 q hlt2
   have hny := hK.nd (jaD ns)[q] (hkb _ (List.getElem_mem hlt2))
   obtain ⟨v2, hv2⟩ := Int.eq_ofNat_of_zero_le hny.1.1
   have hv2m : v2 < m := by omega
   have hcd2 : j8 (jaD ns)[q] = [I v2, I (jaD ns)[q].move] := by unfold j8; rw [hv2]
   rw [hcd2] at hcb
   have hv2T : (jaD ns)[q].node.toNat = v2 := by omega
   refine Y.k<|Y.q<|WP.block<|Y.qr<|Y.U rfl<|Y.v (Ev.loadN [I v2, I (jaD ns)[q].move] (j6 rfl) (j4 rfl) rfl hcb)<|Y.al H rfl rfl ?_
   clear H; intro g16 w H
   refine Y.ss 0 H rfl (cA rfl) rfl ?_
   clear H; intro w H
   refine Y.z ?_
   obtain ⟨_, hRT⟩ := hrd2 w _ (H.drop ((Y.sl.cons _)))
   obtain ⟨bT, oT, rfl, _⟩ := hRT v2 (by omega)
   have hxv := hRT.atK (show v2 < (jan m l v).length by omega)
   rw [jbG] at hxv
   have htk2 : (jaD ns).take (q + 1) = (jaD ns).take q ++ [(jaD ns)[q]] := List.take_succ_eq_append_getElem hlt2
   refine Y.r<|Y.sS rfl<|Y.sS rfl<|Y.W H 0 rfl<|Y.I rfl<|Y.v (Y.c (by assumption) rfl) ?_
   refine OPS.buildSlice rfl rfl rfl rfl (jaJ rfl) H ?_
   clear H; intro g105 w H
   refine OPS.append (m := 1) (news := [I (x9 m l v v2)]) (R := [⟨g105, 3, [I (x9 m l v v2)]⟩, ⟨g16, 68, [I v2, I (jaD ns)[q].move]⟩, ⟨g11, 68, [I v, I mv]⟩, ⟨g5, 108, jaH (some ⟨b, o, none⟩) (some ⟨b2, o2, none⟩) At (jaC ns).length (jaD ns).length j kc kb kt cp hv wt⟩, ⟨g2, 108, jaH none none none 0 0 0 0 0 0 0 0 0⟩, ⟨g1, 28, [I m, .slice A l.length ca, .slice B ts.length cb, .slice C ns.length cc, I hd]⟩] ++ LY) rfl rfl rfl rfl rfl (z8 rfl) rfl rfl hOq rfl (y0 H 0 rfl) rfl (by omega) (by unfold maxLen; omega) H (List.Perm.refl _) ?_
   clear H hOq; intro Aq kq Lq w hOq H
   refine Y.aS rfl<|Y.z<|Y.r<|Y.P rfl<|Y.a rfl<|Y.z ?_
   exact ⟨Y.ag, k2 - 1, by omega, q + 1, Aq, kq, Lq, by omega, rfl, rfl, (by rw [htk2, List.map_append, List.map_append]; simp only [List.map_cons, List.map_nil, hv2T]; exact hOq), H.drop (((List.Sublist.refl _).cons _).cons _)⟩
  have hq : q = (jaD ns).length := by simp at hc25; omega
  subst hq
  rw [List.take_length] at hOq
  have hrow : (jct m l ns)[j]? = some ((jaD ns).map fun y => x9 m l v y.node.toNat) := by
   unfold jct
   rw [List.getElem?_map, List.getElem?_eq_getElem hlt]
   simp only [Option.map_some]
   rw [show (jaC ns)[j].node.toNat = v by omega]
  obtain ⟨rw_, hrw⟩ : ∃ rw_ : List Int, rw_ = (jaD ns).map fun y => x9 m l v y.node.toNat := ⟨_, rfl⟩
  have hrwl : rw_.length = (jaD ns).length := by rw [hrw]; simp
  rw [← hrw] at hOq hrow
  rw [← hrwl] at hOq
  unfold jaH at H
  refine WP.exit<|XB.hit<|Y.r<|Y.W H 1 rfl<|Y.sS rfl<|OPS.buildSlice rfl rfl rfl rfl (jg6 rfl) H ?_
  clear H; intro g111 w H
  have hsub : ([⟨g111, 32, [slV ⟨Aq, kq, rw_⟩]⟩, ⟨g11, 68, [I v, I mv]⟩, ⟨g5, 108, jaH (some ⟨b, o, none⟩) Ab At (jaC ns).length (jaD ns).length j kc kb kt cp hv wt⟩, ⟨g2, 108, jaH none none none 0 0 0 0 0 0 0 0 0⟩, ⟨g1, 28, [I m, .slice A l.length ca, .slice B ts.length cb, .slice C ns.length cc, I hd]⟩] ++ (LX ++ (Lr ++ Lq)) ++ Lt ++ LT : List Blk).Perm (([⟨g111, 32, [slV ⟨Aq, kq, rw_⟩]⟩, ⟨g11, 68, [I v, I mv]⟩, ⟨g5, 108, jaH (some ⟨b, o, none⟩) Ab At (jaC ns).length (jaD ns).length j kc kb kt cp hv wt⟩, ⟨g2, 108, jaH none none none 0 0 0 0 0 0 0 0 0⟩, ⟨g1, 28, [I m, .slice A l.length ca, .slice B ts.length cb, .slice C ns.length cc, I hd]⟩] ++ (LX ++ (Lr ++ Lq)) ++ LT) ++ Lt) := jbf fun f => by simp <;> omega
  replace H : SH w0 [] w ([⟨g111, 32, [slV ⟨Aq, kq, rw_⟩]⟩, ⟨g11, 68, [I v, I mv]⟩, ⟨g5, 108, jaH (some ⟨b, o, none⟩) Ab At (jaC ns).length (jaD ns).length j kc kb kt cp hv wt⟩, ⟨g2, 108, jaH none none none 0 0 0 0 0 0 0 0 0⟩, ⟨g1, 28, [I m, .slice A l.length ca, .slice B ts.length cb, .slice C ns.length cc, I hd]⟩] ++ (LX ++ (Lr ++ Lq)) ++ Lt ++ LT) := by
   rw [hLY] at H
   unfold jaH slV
   rw [hrwl]
   exact H.perm (by exact jbf fun f => by simp <;> omega)
  refine OPS.append (m := 1) (news := [slV ⟨Aq, kq, rw_⟩]) (R := [⟨g111, 32, [slV ⟨Aq, kq, rw_⟩]⟩, ⟨g11, 68, [I v, I mv]⟩, ⟨g5, 108, jaH (some ⟨b, o, none⟩) Ab At (jaC ns).length (jaD ns).length j kc kb kt cp hv wt⟩, ⟨g2, 108, jaH none none none 0 0 0 0 0 0 0 0 0⟩, ⟨g1, 28, [I m, .slice A l.length ca, .slice B ts.length cb, .slice C ns.length cc, I hd]⟩] ++ (LX ++ (Lr ++ Lq)) ++ LT) rfl rfl rfl rfl rfl (z8 rfl) rfl rfl hOt rfl (y0 H 0 rfl) rfl (by omega) (by unfold maxLen; omega) H hsub ?_
  clear H hsub hOt; intro At2 kt2 Lt2 w hOt H
  unfold jaH at H
  simp only [List.cons_append, List.nil_append] at H
  refine Y.F rfl<|Y.ss 2 H rfl (cS rfl) rfl ?_
  clear H; intro w H
  refine Y.z<|Y.r<|Y.P rfl<|Y.a rfl<|Y.z ?_
  have hI2 : RowsIn (rs ++ [⟨Aq, kq, rw_⟩]) (Lr ++ Lq) := fun r hr => by
   rcases List.mem_append.1 hr with hr | hr
   ·exact hrI.mono (fun b hb => List.mem_append_left _ hb) r hr
   ·simp at hr; subst hr
    exact OwnS.rowIn (A := Aq) (l := rw_) hOq |>.imp id fun ⟨g, sp, h1, h2⟩ => ⟨g, sp, h1, List.mem_append_right _ h2⟩
  refine ⟨Y.ag, k - 1, by omega, j + 1, At2, kt2, rs ++ [⟨Aq, kq, rw_⟩], Lt2, Lr ++ Lq, by omega, rfl, by simp [hrl], ?_, hI2, (by rw [List.map_append]; exact hOt), ?_⟩
  ·rw [List.map_append, hrm]
   have hjl : j < (jct m l ns).length := by unfold jct; rw [List.length_map]; exact hlt
   rw [List.take_succ_eq_append_getElem hjl]
   rw [List.getElem?_eq_getElem hjl] at hrow
   simp at hrow
   simp [hrow]
  ·exact fin1 H
 have hj : j = (jaC ns).length := by simp at hc18; omega
 subst hj
 have htl2 : (jct m l ns).length = (jaC ns).length := by unfold jct; simp
 rw [← htl2, List.take_length] at hrm
 unfold jaH at H
 simp only [List.cons_append, List.nil_append] at H
 refine WP.exit<|XB.hit<|Y.qr<|Y.O H 0 rfl<|Y.ss 1 H rfl (cA rfl) rfl ?_
 clear H; intro w H
 refine Y.bz rfl ?_
 refine WP.ret ⟨[_, _], ⟨(by exact x6 1 H rfl (j6 rfl) (j4 rfl) (by rfl) rfl), rfl, trivial⟩, ?_⟩
 have H2 : SH w0 [] w ([_, _, _] ++ ((LX ++ Lr) ++ Lt)) := H
 refine ⟨fun h => absurd h0 h, fun _ => ⟨m, Ac, Ab, At, rs, kc, kb, kt, (LX ++ Lr) ++ Lt, rfl, hrm, fun w0 S w H => ?_, ?_, H2.drop Y.sr⟩⟩
 ·obtain ⟨hRc, hRb⟩ := hrd _ _ w (H.drop (Y.sl.trans Y.sl))
  exact ⟨hRc, hRb, (hOt.ones H).1, hrI.ints (H.drop (Y.sr.trans Y.sl))⟩
 ·rw [hrl]; rfl
end Go.Proofs.YtgcokllbophkkaaGreat
namespace Go.Proofs.YtgcokllbophkkaaGreat.Flo
open Go Go.W
theorem jjM (f : Int) : ∀ (r : List Int) (g x : Int), rowArcs f g (r ++ [x]) = rowArcs f g r ++ if 0 ≤ x then [⟨f, g + r.length, 65536, x⟩] else []
 | [], g, x => by
  simp only [List.nil_append, rowArcs, List.length_nil]
  split <;> simp
 | y :: r, g, x => by
  have ih := jjM f r (g + 1) x
  simp only [List.cons_append, rowArcs, List.length_cons]
  rw [ih, show g + 1 + (r.length : Int) = g + ((r.length + 1 : Nat) : Int) by omega]
  split <;> simp
theorem row_take {f g : Int} {r : List Int} {k : Nat} (h : k < r.length) : rowArcs f g (r.take (k + 1)) = rowArcs f g (r.take k) ++ if 0 ≤ r[k] then [⟨f, g + k, 65536, r[k]⟩] else [] := by
 rw [List.take_succ_eq_append_getElem h, jjM, show ((r.take k).length : Int) = k by simp; omega]
theorem row_len (f : Int) : ∀ (r : List Int) (g : Int), (rowArcs f g r).length ≤ r.length
 | [], _ => Nat.le_refl _
 | x :: r, g => by
  have := row_len f r (g + 1)
  unfold rowArcs
  split <;> simp <;> omega
theorem jkh (g : Int) : ∀ (C : List Int) (tm : List (List Int)) (i c : Int) (r : List Int), C.length = tm.length → colArcs g i (C ++ [c]) (tm ++ [r]) = colArcs g i C tm ++ (⟨0, i + C.length, c, 0⟩ :: rowArcs (i + C.length) g r)
 | [], [], i, c, r, _ => by simp [colArcs]
 | [], _ :: _, _, _, _, h => by simp at h
 | _ :: _, [], _, _, _, h => by simp at h
 | d :: C, q :: tm, i, c, r, h => by
  have ih := jkh g C tm (i + 1) c r (by simpa using h)
  simp only [List.cons_append, colArcs, List.length_cons]
  rw [ih, show i + 1 + (C.length : Int) = i + ((C.length + 1 : Nat) : Int) by omega]
  simp
theorem col_take {g i : Int} {C : List Int} {tm : List (List Int)} {j : Nat} (hl : C.length = tm.length) (h : j < C.length) :
  colArcs g i (C.take (j + 1)) (tm.take (j + 1)) = colArcs g i (C.take j) (tm.take j) ++ (⟨0, i + j, C[j], 0⟩ :: rowArcs (i + j) g (tm[j]'(by omega))) := by
 rw [List.take_succ_eq_append_getElem h, List.take_succ_eq_append_getElem (show j < tm.length by omega), jkh _ _ _ _ _ _ (by simp; omega), show ((C.take j).length : Int) = j by simp; omega]
theorem jni (last : Int) : ∀ (D : List Int) (g d : Int), brArcs last g (D ++ [d]) = brArcs last g D ++ [⟨g + D.length, last, d, 0⟩]
 | [], g, d => by simp [brArcs]
 | e :: D, g, d => by
  have ih := jni last D (g + 1) d
  simp only [List.cons_append, brArcs, List.length_cons]
  rw [ih, show g + 1 + (D.length : Int) = g + ((D.length + 1 : Nat) : Int) by omega]
theorem br_take {last g : Int} {D : List Int} {k : Nat} (h : k < D.length) : brArcs last g (D.take (k + 1)) = brArcs last g (D.take k) ++ [⟨g + k, last, D[k], 0⟩] := by
 rw [List.take_succ_eq_append_getElem h, jni, show ((D.take k).length : Int) = k by simp; omega]
theorem br_len (last : Int) : ∀ (D : List Int) (g : Int), (brArcs last g D).length = D.length
 | [], _ => rfl
 | d :: D, g => by simp [brArcs, br_len last D (g + 1)]
theorem col_len {K : Nat} (g : Int) : ∀ (C : List Int) (tm : List (List Int)) (i : Int), (∀ r ∈ tm, r.length ≤ K) → (colArcs g i C tm).length ≤ C.length * (K + 1)
 | [], _, _, _ => by simp [colArcs]
 | _ :: _, [], _, _ => by simp [colArcs]
 | c :: C, r :: tm, i, h => by
  have h1 := row_len i r g
  have h2 := h r (by simp)
  have h3 := col_len g C tm (i + 1) fun q hq => h q (by simp [hq])
  simp only [colArcs, List.length_cons, List.length_append, Nat.succ_mul]
  omega
end Go.Proofs.YtgcokllbophkkaaGreat.Flo
namespace Go.Proofs.YtgcokllbophkkaaGreat
open Go Go.W Go.RowKit
def jgl (N : Int) (A : Option Addr) (k c : Nat) : List Value := [I N, .slice A k c]
theorem jki (N f t cp cst : Int) (g k c : Nat) (A : Option Addr) (l : List Flo.Arc) (Lo : List Blk) (S : List Nat) (w0 : World) (hk : k ≤ 100000) (hO : OwnS A c k (l.flatMap Flo.arcCells) 151 4 Lo) (H0 : SH w0 S w0 ([(⟨g, 123, jgl N A k c⟩ : Blk)] ++ Lo)) :
  Calls Tryz.prog 112 #[I f, I t, I cp, I cst, .pointer (some ⟨g, 0, none⟩)] w0 fun e w' => ∃ (A' : Option Addr) (c' : Nat) (Lo' : List Blk), e = .returned (.tuple #[]) ∧ OwnS A' c' (k + 1) ((l ++ [(⟨f, t, cp, cst⟩ : Flo.Arc)]).flatMap Flo.arcCells) 151 4 Lo' ∧ SH w0 S w' ([(⟨g, 123, jgl N A' (k + 1) c'⟩ : Blk)] ++ Lo') := by
 have H := H0
 unfold jgl at H
 refine Calls.ofWP Tryz.func112 rfl Tryz.results112 Tryz.ntmps112 rfl<|Y.r<|Y.W H 0 rfl<|Y.a rfl<|Y.a rfl<|Y.a rfl<|Y.a rfl<|Y.v (Ev.build (jc8 rfl rfl rfl rfl))<|OPS.buildSlice rfl rfl rfl rfl (jbV rfl) H ?_
 clear H; intro g16 w H
 refine OPS.append (m := 1) (news := [I f, I t, I cp, I cst]) (R := [⟨g16, 151, [I f, I t, I cp, I cst]⟩, ⟨g, 123, [I N, .slice A k c]⟩]) rfl rfl rfl rfl rfl (z8 rfl) rfl rfl hO rfl (y0 H 0 rfl) rfl (by omega) (by unfold maxLen; omega) H (List.Perm.refl _) ?_
 clear H hO; intro A' c' Lo' w hO H
 simp only [List.cons_append, List.nil_append] at H
 refine Y.F rfl<|Y.ss 1 H rfl (cS rfl) rfl ?_
 clear H; intro w H
 refine Y.z <| ⟨_, rfl, ?_⟩
 exact ⟨A', c', Lo', rfl, (by rw [List.flatMap_append]; simpa [Flo.arcCells] using hO), H.drop Y.sc⟩
structure jgP (cs bs : List z6) (rs : List (SlA Int)) : Prop where
 cl : cs.length ≤ 16
 bl : bs.length ≤ 16
 rl : rs.length = cs.length
 row : ∀ r ∈ rs, r.l.length = bs.length
 cm : ∀ x ∈ cs, -32 ≤ x.move ∧ x.move ≤ 32
 bm : ∀ x ∈ bs, -32 ≤ x.move ∧ x.move ≤ 32
def jji (cs bs : List z6) (rs : List (SlA Int)) : List Flo.Arc := Flo.colArcs (1 + cs.length) 1 (cs.map (·.move)) (rs.map (·.l)) ++ Flo.brArcs (cs.length + bs.length + 1) (1 + cs.length) (bs.map fun x => -x.move)
theorem nw1 {g c d : Blk} : (g :: [c, d]).Perm ([c, d] ++ ([g] ++ [])) := jbf fun f => by simp <;> omega
set_option maxRecDepth 20000 in
theorem jgK (Ac Ab At : Option Addr) (cs bs : List z6) (rs : List (SlA Int)) (kc kb kt : Nat) (cp hv wt : Int) (w0 : World) (hT : jeB w0 Ac Ab At cs bs rs) (hK : jgP cs bs rs) :
  Calls Tryz.prog 91 #[.agg (jaH Ac Ab At cs.length bs.length rs.length kc kb kt cp hv wt).toArray] w0 fun e w' => ∃ (A : Option Addr) (cap : Nat) (L : List Blk), e = .returned (.agg #[I (cs.length + bs.length + 1 + 1), .slice A (jji cs bs rs).length cap]) ∧ Reads L (fun w => Flo.ArcsAt w A (jji cs bs rs)) ∧ SH w0 [] w' L := by
 have H := SH.refl w0
 have hcl := hK.cl
 have hbl := hK.bl
 have hrl := hK.rl
 have hrows : ∀ r ∈ rs.map (·.l), r.length ≤ 16 := fun r hr => by
  obtain ⟨q, hq, rfl⟩ := List.mem_map.1 hr
  rw [hK.row q hq]; exact hbl
 obtain ⟨N, hNe⟩ : ∃ N : Int, N = cs.length + bs.length + 1 + 1 := ⟨_, rfl⟩
 obtain ⟨C, hC⟩ : ∃ C : List Int, C = cs.map (·.move) := ⟨_, rfl⟩
 obtain ⟨D, hD⟩ : ∃ D : List Int, D = bs.map fun x => -x.move := ⟨_, rfl⟩
 obtain ⟨tm, htm⟩ : ∃ tm : List (List Int), tm = rs.map (·.l) := ⟨_, rfl⟩
 have hCl : C.length = cs.length := by rw [hC]; simp
 have hDl : D.length = bs.length := by rw [hD]; simp
 have htl : tm.length = rs.length := by rw [htm]; simp
 rw [← htm] at hrows
 have hclen : ∀ j, (Flo.colArcs (1 + cs.length) 1 (C.take j) (tm.take j)).length ≤ 272 := fun j => by
  have h1 := Flo.col_len (K := 16) (1 + cs.length) (C.take j) (tm.take j) 1 (fun r hr => hrows r (List.mem_of_mem_take hr))
  have h2 : (C.take j).length ≤ C.length := List.length_take_le' _ _
  omega
 refine Calls.ofWPc Tryz.func91 rfl Tryz.results91 Tryz.ntmps91 rfl<|Y.qr<|Y.bx (cA rfl) H ?_
 clear H; intro g1 w H
 refine Y.al H rfl rfl ?_
 clear H; intro g2 w H
 refine Y.z<|Y.qr<|Y.W H 1 rfl<|Y.E rfl<|Y.W H 1 rfl<|Y.E rfl<|Y.P rfl<|Y.P rfl<|Y.bz rfl<|Y.qr<|Y.a rfl<|Y.P rfl<|Y.v (Ev.build (jgq rfl))<|Y.al H rfl rfl ?_
 clear H; intro g4 w H
 refine Y.ss 0 H rfl (cA rfl) rfl ?_
 clear H; intro w H
 refine Y.z ?_
 unfold jaH at H
 rw [← hNe] at H
 refine Y.qr<|Y.v (Ev.makeFunc)<|Y.v (Ev.asF rfl)<|Y.z<|Y.qq<|Y.W H 2 rfl<|Y.E rfl<|Y.a rfl<|Y.z<|WP.block<|WP.loop [6, 7, 8, 9, 27, 28, 29, 30, 31, 32, 33, 34, 35, 36, 37, 38, 39, 40, 41, 42, 43, 44, 45, 46, 47, 48, 49, 50, 51, 52, 53, 54, 55, 56, 57, 58, 59, 60, 61, 62, 63] (fun k e w' => ∃ (j : Nat) (A : Option Addr) (c : Nat) (Lo : List Blk), j + k = cs.length ∧ e 27 = I j ∧ OwnS A c (Flo.colArcs (1 + cs.length) 1 (C.take j) (tm.take j)).length ((Flo.colArcs (1 + cs.length) 1 (C.take j) (tm.take j)).flatMap Flo.arcCells) 151 4 Lo ∧ SH w0 [] w' ([⟨g2, 123, [I 0, .slice none 0 0]⟩, ⟨g1, 108, jaH Ac Ab At cs.length bs.length rs.length kc kb kt cp hv wt⟩] ++ ([⟨g4, 123, jgl N A (Flo.colArcs (1 + cs.length) 1 (C.take j) (tm.take j)).length c⟩] ++ Lo))) (cs.length) (⟨0, none, 0, [], by omega, rfl, (by rw [List.take_zero]; exact OwnS.nil), (by rw [List.take_zero]; exact H.perm nw1)⟩) ?_
 clear H
 rintro k u w ⟨j, A, c, Lo, hk, h27, hO, H⟩
 refine WP.know (t := 27) h27<|Y.qr<|Y.lt rfl<|Y.z<|Y.q ?_
 refine Y.i rfl (fun hc5 => ?_) fun hc5 => ?_
 ·have hlt : j < cs.length := by simpa using hc5
  obtain ⟨b, o, rfl, hc⟩ := hT.c j hlt
  have hc' := k7 H hc
  obtain ⟨r, hre⟩ : ∃ r, r = rs[j]'(by omega) := ⟨_, rfl⟩
  have hrm : r ∈ rs := by rw [hre]; exact List.getElem_mem _
  have hrI := hT.r r hrm
  have hrb := hK.row r hrm
  obtain ⟨bt, ot, rfl, hxt⟩ := hT.t j (by omega)
  rw [← hre] at hxt
  have eT : tm[j]'(by omega) = r.l := by simp [htm, hre]
  clear hre hrm
  obtain ⟨rA, rc, rl⟩ := r
  simp only [slV] at hxt hrI hrb eT
  have hmx := hK.cm cs[j] (List.getElem_mem hlt)
  obtain ⟨nx, hnx⟩ : ∃ nx, nx = cs[j] := ⟨_, rfl⟩
  rw [← hnx] at hmx hc hc'
  have hcl2 := hclen j
  have eC : C[j]'(by omega) = nx.move := by simp [hC, hnx]
  have hct := Flo.col_take (g := 1 + cs.length) (i := 1) (C := C) (tm := tm) (j := j) (by omega) (by omega)
  rw [eC, eT] at hct
  obtain ⟨l0, hl0⟩ : ∃ l0, l0 = Flo.colArcs (1 + cs.length) 1 (C.take j) (tm.take j) := ⟨_, rfl⟩
  rw [← hl0] at hO H hct hcl2
  refine Y.k<|Y.q<|WP.block<|Y.qr<|Y.a rfl<|Y.U rfl<|Y.v (Ev.loadN (j8 nx) (j6 rfl) (j4 rfl) rfl hc')<|Y.al H rfl rfl ?_
  clear H; intro g7 w H
  refine Y.b rfl<|Y.ss 0 H rfl (cA rfl) rfl ?_
  clear H; intro w H
  refine Y.z<|Y.q ?_
  clear hc'
  unfold j8 at H
  simp only [jam, List.set_cons_zero, List.set_cons_succ] at H
  refine Y.r<|Y.v (Ev.mvF rfl)<|Y.a rfl<|Y.P rfl<|Y.W H 0 rfl<|OPS.call (d := some 37) rfl rfl rfl (EvC.clos rfl (z7 rfl)) (jki N 0 (1 + j) nx.move 0 g4 l0.length c A l0 Lo _ w (by omega) hO (H.restart (Lv := [_] ++ Lo) (List.sublist_append_right [_, _, _] _))) ?_
  rintro _ w ⟨A2, c2, Lo2, rfl, hO2, Hc⟩
  refine ⟨_, rfl, ?_⟩
  replace H := SH.call (L1 := [_, _, _]) (Lv := [_] ++ Lo) H Hc
  clear Hc hO
  refine Y.z<|Y.qr<|Y.W H 2 rfl<|Y.a rfl<|Y.I rfl<|Y.v (Y.c (H.ld0 (by assumption)) rfl) ?_
  refine Y.E rfl<|Y.a rfl<|Y.z<|WP.block<|WP.loop [8, 9, 44, 45, 46, 47, 48, 49, 50, 51, 52, 53, 54, 55, 56, 57, 58, 59, 60, 61, 62] (fun k e w' => ∃ (q : Nat) (A : Option Addr) (c : Nat) (Lo : List Blk), q + k = bs.length ∧ e 44 = I q ∧ OwnS A c (l0 ++ ((⟨0, 1 + j, nx.move, 0⟩ : Flo.Arc) :: Flo.rowArcs (1 + j) (1 + cs.length) (rl.take q))).length ((l0 ++ ((⟨0, 1 + j, nx.move, 0⟩ : Flo.Arc) :: Flo.rowArcs (1 + j) (1 + cs.length) (rl.take q))).flatMap Flo.arcCells) 151 4 Lo ∧ SH w0 [] w' ([⟨g7, 68, [I nx.node, I nx.move]⟩, ⟨g2, 123, [I 0, .slice none 0 0]⟩, ⟨g1, 108, jaH (some ⟨b, o, none⟩) Ab (some ⟨bt, ot, none⟩) cs.length bs.length rs.length kc kb kt cp hv wt⟩] ++ ([⟨g4, 123, jgl N A (l0 ++ ((⟨0, 1 + j, nx.move, 0⟩ : Flo.Arc) :: Flo.rowArcs (1 + j) (1 + cs.length) (rl.take q))).length c⟩] ++ Lo))) (bs.length) (⟨0, A2, c2, Lo2, by omega, rfl, (by rw [List.take_zero]; simpa [Flo.rowArcs] using hO2), (by rw [List.take_zero]; simpa [Flo.rowArcs] using H)⟩) ?_
  clear H hO2
  rintro k2 u2 w ⟨q, A3, c3, Lo3, hk2, h44, hO3, H⟩
  refine WP.know (t := 44) h44 ?_
  have hrl2 := Flo.row_len (1 + j) (rl.take q) (1 + cs.length)
  have hrl3 : (rl.take q).length ≤ rl.length := List.length_take_le' _ _
  obtain ⟨l1, hl1⟩ : ∃ l1, l1 = l0 ++ ((⟨0, 1 + j, nx.move, 0⟩ : Flo.Arc) :: Flo.rowArcs (1 + j) (1 + cs.length) (rl.take q)) := ⟨_, rfl⟩
  have hl1n : l1.length ≤ 300 := by rw [hl1]; simp; omega
  rw [← hl1] at hO3 H
  refine Y.qr<|Y.lt rfl<|Y.z<|Y.q ?_
  refine Y.i rfl (fun hc9 => ?_) fun hc9 => ?_
  ·have hlt2 : q < rl.length := by simp at hc9; omega
   obtain ⟨br, orr, rfl, hx3⟩ := hrI q hlt2
   have hrt := Flo.row_take (f := 1 + j) (g := 1 + cs.length) (r := rl) (k := q) hlt2
   obtain ⟨x, hx⟩ : ∃ x, x = rl[q] := ⟨_, rfl⟩
   rw [← hx] at hx3 hrt
   refine Y.k<|Y.q<|WP.block<|Y.qr<|Y.a rfl<|Y.I rfl<|Y.v (Y.c (H.ld0 (by assumption)) rfl) ?_
   refine Y.b rfl<|Y.bz rfl<|Y.qr<|Y.a rfl<|Y.v (Ev.geq rfl rfl)<|Y.z ?_
   refine Y.i rfl (fun hc11 => ?_) fun hc11 => ?_
   ·have hx0 : 0 ≤ x := by simpa using hc11
    rw [if_pos hx0] at hrt
    have hl2 : l0 ++ ((⟨0, 1 + j, nx.move, 0⟩ : Flo.Arc) :: Flo.rowArcs (1 + j) (1 + cs.length) (rl.take (q + 1))) = l1 ++ [(⟨1 + j, 1 + cs.length + q, 65536, x⟩ : Flo.Arc)] := by rw [hl1, hrt]; simp
    refine Y.r<|Y.v (Ev.mvF rfl)<|Y.a rfl<|Y.P rfl<|Y.W H 2 rfl<|Y.E rfl<|Y.P rfl<|Y.a rfl<|Y.P rfl<|Y.a rfl<|OPS.call (d := some 61) rfl rfl rfl (EvC.clos rfl (z7 rfl)) (jki N (1 + j) (1 + cs.length + q) 65536 x g4 l1.length c3 A3 l1 Lo3 _ w (by omega) hO3 (H.restart (Lv := [_] ++ Lo3) (List.sublist_append_right [_, _, _] _))) ?_
    rintro _ w ⟨A4, c4, Lo4, rfl, hO4, Hc⟩
    refine ⟨_, rfl, ?_⟩
    replace H := SH.call (L1 := [_, _, _]) (Lv := [_] ++ Lo3) H Hc
    clear Hc hO3
    have hl3 : (l1 ++ [(⟨1 + j, 1 + cs.length + q, 65536, x⟩ : Flo.Arc)]).length = l1.length + 1 := by simp
    rw [← hl3, ← hl2] at hO4 H
    refine Y.z<|Y.r<|Y.P rfl<|Y.a rfl<|Y.z ?_
    exact ⟨Y.ag, k2 - 1, by omega, q + 1, A4, c4, Lo4, by omega, rfl, hO4, H⟩
   have hx0 : ¬ 0 ≤ x := by simpa using hc11
   rw [if_neg hx0, List.append_nil] at hrt
   have hl2 : l1 = l0 ++ ((⟨0, 1 + j, nx.move, 0⟩ : Flo.Arc) :: Flo.rowArcs (1 + j) (1 + cs.length) (rl.take (q + 1))) := by rw [hl1, hrt]
   obtain ⟨A4, c4, Lo4, e4, e5, e6⟩ : ∃ A4 c4 Lo4, A4 = A3 ∧ c4 = c3 ∧ Lo4 = Lo3 := ⟨_, _, _, rfl, rfl, rfl⟩
   rw [← e4, ← e5, ← e6, hl2] at H
   have hO4 := hO3
   rw [← e4, ← e5, ← e6, hl2] at hO4
   refine Y.k<|Y.r<|Y.P rfl<|Y.a rfl<|Y.z ?_
   exact ⟨Y.ag, k2 - 1, by omega, q + 1, A4, c4, Lo4, by omega, rfl, hO4, H⟩
  refine WP.exit<|XB.hit<|Y.r<|Y.P rfl<|Y.a rfl<|Y.z ?_
  have hq : q = rl.length := by simp at hc9; omega
  rw [hq, List.take_length, ← hct] at hl1
  rw [hl1] at hO3 H
  exact ⟨Y.ag, k - 1, by omega, j + 1, A3, c3, Lo3, by omega, rfl, hO3, H.drop Y.sc⟩
 have hj : j = cs.length := by simp at hc5; omega
 subst hj
 rw [List.take_of_length_le (show C.length ≤ cs.length by omega), List.take_of_length_le (show tm.length ≤ cs.length by omega)] at hO H
 have hcl2 := hclen cs.length
 rw [List.take_of_length_le (show C.length ≤ cs.length by omega), List.take_of_length_le (show tm.length ≤ cs.length by omega)] at hcl2
 obtain ⟨l0, hl0⟩ : ∃ l0, l0 = Flo.colArcs (1 + cs.length) 1 C tm := ⟨_, rfl⟩
 rw [← hl0] at hO H hcl2
 refine WP.exit<|XB.hit<|Y.qq<|Y.W H 1 rfl<|Y.E rfl<|Y.a rfl<|Y.z<|WP.block<|WP.loop [10, 11, 67, 68, 69, 70, 71, 72, 73, 74, 75, 76, 77, 78, 79, 80, 81, 82, 83, 84] (fun k e w' => ∃ (q : Nat) (A : Option Addr) (c : Nat) (Lo : List Blk), q + k = bs.length ∧ e 67 = I q ∧ OwnS A c (l0 ++ Flo.brArcs (cs.length + bs.length + 1) (1 + cs.length) (D.take q)).length ((l0 ++ Flo.brArcs (cs.length + bs.length + 1) (1 + cs.length) (D.take q)).flatMap Flo.arcCells) 151 4 Lo ∧ SH w0 [] w' ([⟨g2, 123, [I 0, .slice none 0 0]⟩, ⟨g1, 108, jaH Ac Ab At cs.length bs.length rs.length kc kb kt cp hv wt⟩] ++ ([⟨g4, 123, jgl N A (l0 ++ Flo.brArcs (cs.length + bs.length + 1) (1 + cs.length) (D.take q)).length c⟩] ++ Lo))) (bs.length) (⟨0, A, c, Lo, by omega, rfl, (by rw [List.take_zero]; simpa [Flo.brArcs] using hO), (by rw [List.take_zero]; simpa [Flo.brArcs] using H)⟩) ?_
 clear H hO
 rintro k2 u2 w ⟨q, A3, c3, Lo3, hk2, h67, hO3, H⟩
 refine WP.know (t := 67) h67 ?_
 have hbl2 := Flo.br_len (cs.length + bs.length + 1) (D.take q) (1 + cs.length)
 have hbl3 : (D.take q).length ≤ D.length := List.length_take_le' _ _
 obtain ⟨l1, hl1⟩ : ∃ l1, l1 = l0 ++ Flo.brArcs (cs.length + bs.length + 1) (1 + cs.length) (D.take q) := ⟨_, rfl⟩
 have hl1n : l1.length ≤ 300 := by rw [hl1]; simp; omega
 rw [← hl1] at hO3 H
 refine Y.qr<|Y.lt rfl<|Y.z<|Y.q ?_
 refine Y.i rfl (fun hc16 => ?_) fun hc16 => ?_
 ·have hlt2 : q < bs.length := by simpa using hc16
  obtain ⟨b, o, rfl, hc⟩ := hT.b q hlt2
  have hc' := k7 H hc
  have hmx := hK.bm bs[q] (List.getElem_mem hlt2)
  obtain ⟨ny, hny⟩ : ∃ ny, ny = bs[q] := ⟨_, rfl⟩
  rw [← hny] at hmx hc hc'
  have eD : D[q]'(by omega) = -ny.move := by simp [hD, hny]
  have hbt := Flo.br_take (last := cs.length + bs.length + 1) (g := 1 + cs.length) (D := D) (k := q) (by omega)
  rw [eD] at hbt
  have hl2 : l0 ++ Flo.brArcs (cs.length + bs.length + 1) (1 + cs.length) (D.take (q + 1)) = l1 ++ [(⟨1 + cs.length + q, cs.length + bs.length + 1, -ny.move, 0⟩ : Flo.Arc)] := by rw [hl1, hbt, List.append_assoc]
  refine Y.k<|Y.q<|WP.block<|Y.qr<|Y.a rfl<|Y.U rfl<|Y.v (Ev.loadN (j8 ny) (j6 rfl) (j4 rfl) rfl hc')<|Y.al H rfl rfl ?_
  clear H; intro g11 w H
  refine Y.b rfl<|Y.ss 0 H rfl (cA rfl) rfl ?_
  clear H; intro w H
  refine Y.z ?_
  clear hc'
  unfold j8 at H
  simp only [jam, List.set_cons_zero, List.set_cons_succ] at H
  refine Y.r<|Y.v (Ev.mvF rfl)<|Y.W H 2 rfl<|Y.E rfl<|Y.P rfl<|Y.a rfl<|Y.P rfl<|Y.a rfl<|Y.W H 0 rfl<|Y.v (Ev.neg rfl (by unfold fits; omega))<|OPS.call (d := some 83) rfl rfl rfl (EvC.clos rfl (z7 rfl)) (jki N (1 + cs.length + q) (cs.length + bs.length + 1) (-ny.move) 0 g4 l1.length c3 A3 l1 Lo3 _ w (by omega) hO3 (H.restart (Lv := [_] ++ Lo3) (List.sublist_append_right [_, _, _] _))) ?_
  rintro _ w ⟨A4, c4, Lo4, rfl, hO4, Hc⟩
  refine ⟨_, rfl, ?_⟩
  replace H := SH.call (L1 := [_, _, _]) (Lv := [_] ++ Lo3) H Hc
  clear Hc hO3
  have hl3 : (l1 ++ [(⟨1 + cs.length + q, cs.length + bs.length + 1, -ny.move, 0⟩ : Flo.Arc)]).length = l1.length + 1 := by simp
  rw [← hl3, ← hl2] at hO4 H
  refine Y.z<|Y.r<|Y.P rfl<|Y.a rfl<|Y.z ?_
  exact ⟨Y.ag, k2 - 1, by omega, q + 1, A4, c4, Lo4, by omega, rfl, hO4, H.drop Y.sc⟩
 have hq : q = bs.length := by simp at hc16; omega
 have hnet : l1 = jji cs bs rs := by
  rw [hl1, hl0, hq, List.take_of_length_le (show D.length ≤ bs.length by omega), hC, hD, htm]; rfl
 rw [hnet] at hO3 H
 unfold jgl at H
 simp only [List.cons_append, List.nil_append] at H
 refine WP.exit<|XB.hit<|Y.qr<|Y.O H 2 rfl<|Y.ss 0 H rfl (cA rfl) rfl ?_
 clear H; intro w H
 refine Y.z ?_
 refine WP.ret ⟨[_], ⟨(by exact x6 0 H rfl (j6 rfl) (j4 rfl) (by rfl) rfl), trivial⟩, ?_⟩
 have H2 : SH w0 [] w ([_, _, _] ++ Lo3) := H
 exact ⟨A3, c3, Lo3, (by rw [hNe]; rfl), fun w0 S w H => (hO3.rows (enc := Flo.arcCells) (l := jji cs bs rs) (fun _ => rfl) (by decide) (R := []) H).1, H2.drop Y.sr⟩
end Go.Proofs.YtgcokllbophkkaaGreat
namespace Go.Proofs.YtgcokllbophkkaaGreat.Flo
open Go Go.W
def DMax (C D : List Int) (tm : List (List Int)) (T : Int) : Prop := (∃ u v : Nat → Int, (∀ j, 0 ≤ u j) ∧ jnh 1 tm u v ∧ dn D v - dn C u = T) ∧ ∀ u v : Nat → Int, (∀ j, 0 ≤ u j) → jnh 1 tm u v → dn D v - dn C u ≤ T
theorem DMax.unique {C D : List Int} {tm : List (List Int)} {T T' : Int} (h : DMax C D tm T) (h' : DMax C D tm T') : T = T' := by
 obtain ⟨⟨u, v, h1, h2, h3⟩, h4⟩ := h
 obtain ⟨⟨u', v', h1', h2', h3'⟩, h4'⟩ := h'
 have := h4 u' v' h1' h2'
 have := h4' u v h1 h2
 omega
theorem jgE : ∀ (D : List Int) (k : Nat) (N : Int) (h : k < D.length), dn D (fun q => if q = k then N else 0) = D[k] * N
 | [], _, _, h => by simp at h
 | d :: D, 0, N, _ => by
  simp only [dn, if_true, List.getElem_cons_zero]
  rw [jbp (v := fun _ => 0) (fun k _ => if_neg (by omega))]
  have : ∀ D : List Int, dn D (fun _ => 0) = 0 := fun D => by induction D with | nil => rfl | cons a D ih => simp only [dn, ih]; omega
  rw [this]; omega
 | d :: D, k + 1, N, h => by
  simp only [dn, List.getElem_cons_succ]
  rw [jbp (v := fun q => if q = k then N else 0) (fun q _ => by by_cases hq : q = k <;> simp [hq]), jgE D k N (by simpa using h)]
  simp
def VMin (tm : List (List Int)) (u : Nat → Int) (k n : Nat) (v : Int) (found : Bool) : Prop :=
 if found = true then (∃ j x, j < n ∧ tmAt tm j k = some x ∧ 0 ≤ x ∧ v = x + u j) ∧ ∀ j x, j < n → tmAt tm j k = some x → 0 ≤ x → v ≤ x + u j
 else v = 0 ∧ ∀ j x, j < n → tmAt tm j k = some x → x < 0
theorem VMin.zero {tm : List (List Int)} {u : Nat → Int} {k : Nat} : VMin tm u k 0 0 false := ⟨rfl, fun j x h => absurd h (by omega)⟩
theorem VMin.step {tm : List (List Int)} {u : Nat → Int} {k n : Nat} {v : Int} {found : Bool} (h : VMin tm u k n v found) {x : Int} (hx : tmAt tm n k = some x) :
  VMin tm u k (n + 1) (if (decide (0 ≤ x) && (!found || decide (x + u n < v))) = true then x + u n else v) (found || decide (0 ≤ x)) := by
 have key : ∀ {j y}, j < n + 1 → tmAt tm j k = some y → (j < n ∧ tmAt tm j k = some y) ∨ (j = n ∧ y = x) := fun {j y} hj hy => by
  by_cases he : j = n
  ·subst he; rw [hx] at hy; cases hy; exact .inr ⟨rfl, rfl⟩
  ·exact .inl ⟨by omega, hy⟩
 cases found with
 | false =>
  obtain ⟨rfl, h2⟩ := h
  by_cases h0 : 0 ≤ x
  ·simp only [h0, decide_true, Bool.not_false, Bool.true_or, Bool.and_self, if_true, Bool.or_true]
   refine ⟨⟨n, x, by omega, hx, h0, rfl⟩, fun j y hj hy hy0 => ?_⟩
   rcases key hj hy with ⟨h3, h4⟩ | ⟨rfl, rfl⟩
   ·have := h2 j y h3 h4; omega
   ·omega
  ·simp only [h0, decide_false, Bool.false_and, Bool.or_false, Bool.false_eq_true, if_false]
   refine ⟨rfl, fun j y hj hy => ?_⟩
   rcases key hj hy with ⟨h3, h4⟩ | ⟨rfl, rfl⟩
   ·exact h2 j y h3 h4
   ·omega
 | true =>
  obtain ⟨⟨j0, x0, a1, a2, a3, a4⟩, h2⟩ := h
  by_cases h0 : 0 ≤ x ∧ x + u n < v
  ·simp only [h0.1, h0.2, decide_true, Bool.or_true, Bool.and_self, if_true]
   refine ⟨⟨n, x, by omega, hx, h0.1, rfl⟩, fun j y hj hy hy0 => ?_⟩
   rcases key hj hy with ⟨h3, h4⟩ | ⟨rfl, rfl⟩
   ·have := h2 j y h3 h4 hy0; omega
   ·omega
  ·rw [if_neg (by simp; omega)]
   refine ⟨⟨j0, x0, by omega, a2, a3, a4⟩, fun j y hj hy hy0 => ?_⟩
   rcases key hj hy with ⟨h3, h4⟩ | ⟨rfl, rfl⟩
   ·exact h2 j y h3 h4 hy0
   ·omega
structure Trans (C D : List Int) (tm : List (List Int)) : Prop where
 tab : Tab C D tm
 cb : ∀ c ∈ C, 1 ≤ c ∧ c ≤ 32
 db : ∀ d ∈ D, 1 ≤ d ∧ d ≤ 32
 cl : C.length ≤ 16
 dl : D.length ≤ 16
 tb : ∀ j k x, tmAt tm j k = some x → -1 ≤ x ∧ x ≤ 64000
 full : ∀ j k, j < C.length → k < D.length → ∃ x, tmAt tm j k = some x
theorem sum_le {l : List Int} {c : Int} (h : ∀ x ∈ l, 0 ≤ x ∧ x ≤ c) : 0 ≤ l.sum ∧ l.sum ≤ c * l.length := by
 induction l with
 | nil => simp
 | cons a l ih =>
  have := ih fun x hx => h x (List.mem_cons_of_mem _ hx)
  have := h a (by simp)
  simp only [List.sum_cons, List.length_cons]
  rw [show c * ((l.length + 1 : Nat) : Int) = c * l.length + c by rw [Int.natCast_add, Int.mul_add]; simp]
  omega
section
variable {C D : List Int} {tm : List (List Int)}
theorem Trans.dsum (h : Trans C D tm) : 0 ≤ D.sum ∧ D.sum ≤ 512 := by
 have h1 := sum_le (l := D) (c := 32) fun x hx => by have := h.db x hx; omega
 have := h.dl
 omega
theorem stand_p (C D : List Int) : jd2 (C.length + D.length + 2) 1 (1 + C.length) (C.length + D.length + 1) C.length D.length := ⟨by omega, rfl, by omega, by omega, by omega⟩
theorem stand_r (C D : List Int) : jd2 (C.length + D.length + 2) 2 (2 + C.length) 1 C.length D.length := ⟨by omega, rfl, by omega, by omega, by omega⟩
theorem Trans.ends (h : Trans C D tm) {i0 g0 last : Int} {l : List Arc} (hP : jd2 (C.length + D.length + 2) i0 g0 last C.length D.length) (h2 : Two l (colArcs g0 i0 C tm) (brArcs last g0 D)) (hll : l.length ≤ 512) : endsErr (C.length + D.length + 2 : Nat) l 0 last = 0 := by
 have hn := net_nodes hP h.tab h2
 have hcl := h.cl
 have hdl := h.dl
 have h0 := hP.hl0
 have ha : jbl (C.length + D.length + 2 : Nat) l = 0 := by
  rw [ja7 (j := l.length) (Nat.le_refl _) (fun i hi _ => ?_)]
  ·simp [jbl]
  ·have hm := List.getElem_mem hi
   have h3 := hn l[i] hm
   refine ⟨by simp [jcS, jaV]; omega, ?_⟩
   rcases jeK h2 hm with ⟨j, h1, _, _, h4⟩ | ⟨j, k, h1, h4, _, _, h5⟩ | ⟨k, h1, _, _, h4⟩
   ·have := h.cb _ (List.mem_of_getElem? h1)
    simp [jbE]; omega
   ·have := h.tb j k _ h1
    simp [jbE]; omega
   ·have := h.db _ (List.mem_of_getElem? h1)
    simp [jbE]; omega
 have hne : jby (C.length + D.length + 2 : Nat) l = 0 := by
  unfold jby
  rw [if_neg (by simp; omega), if_neg (by omega), ha]
 rw [endsErr, if_neg (by rw [hne]; simp), if_neg (by simp [jaV]; omega), if_neg (by omega)]
end
structure Solved (C D : List Int) (tm : List (List Int)) (us vs : List Int) (T : Int) : Prop where
 ul : us.length = C.length
 vl : vs.length = D.length
 ub : ∀ x ∈ us, 0 ≤ x ∧ x ≤ 1000000000
 vb : ∀ x ∈ vs, 0 ≤ x ∧ x ≤ 2000000000
 feas : jnh 1 tm (fun j => us.getD j 0) (fun k => vs.getD k 0)
 val : dn D (fun k => vs.getD k 0) - dn C (fun j => us.getD j 0) = T
 max : DMax C D tm T
 tn : 0 ≤ T ∧ T ≤ 4000000000000
 flow : ∃ on, IsFlow (C.length + D.length + 2) (colArcs (1 + C.length) 1 C tm ++ brArcs (C.length + D.length + 1) (1 + C.length) D) 0 (C.length + D.length + 1) on D.sum ∧ costOf (colArcs (1 + C.length) 1 C tm ++ brArcs (C.length + D.length + 1) (1 + C.length) D) on = T
theorem solved_of {C D : List Int} {tm : List (List Int)} {i0 g0 last : Int} {l : List Arc} {on pots us vs : List Int} (h : Trans C D tm) (hN : NetOk (C.length + D.length + 2) l) (hP : jd2 (C.length + D.length + 2) i0 g0 last C.length D.length) (h2 : Two l (colArcs g0 i0 C tm) (brArcs last g0 D))
  (hf : IsFlow (C.length + D.length + 2) l 0 last on D.sum) (ho : OptPot (potF pots) l on) (hz : potF pots 0 = 0) (hb : ∀ x : Int, 0 ≤ potF pots x ∧ potF pots x ≤ 1000000000)
  (hul : us.length = C.length) (hu : ∀ j, j < C.length → us.getD j 0 = potF pots (i0 + j)) (hvl : vs.length = D.length) (hv : ∀ k, k < D.length → ∃ found, VMin tm (fun j => us.getD j 0) k C.length (vs.getD k 0) found)
  (hfl : ∃ on', IsFlow (C.length + D.length + 2) (colArcs (1 + C.length) 1 C tm ++ brArcs (C.length + D.length + 1) (1 + C.length) D) 0 (C.length + D.length + 1) on' D.sum ∧ costOf (colArcs (1 + C.length) 1 C tm ++ brArcs (C.length + D.length + 1) (1 + C.length) D) on' = costOf l on) : Solved C D tm us vs (costOf l on) := by
 have hn := net_nodes hP h.tab h2
 have hD := h.dsum
 have hcost : 0 ≤ costOf l on ∧ costOf l on ≤ 4000000000000 := by
  have h1 := costOf_bd hN hf.v l.length (Nat.le_refl _)
  rw [List.take_length, List.take_of_length_le (by rw [hf.v.len]; omega)] at h1
  have := hN.len
  omega
 have hub : ∀ x ∈ us, 0 ≤ x ∧ x ≤ 1000000000 := fun x hx => by
  obtain ⟨j, hj, rfl⟩ := List.mem_iff_getElem.1 hx
  have := hu j (by omega)
  have e : us.getD j 0 = us[j] := by simp [hj]
  rw [← e, this]; exact hb _
 have hu0 : ∀ j, 0 ≤ us.getD j 0 := fun j => by
  by_cases hj : j < us.length
  ·have e : us.getD j 0 = us[j] := by simp [hj]
   rw [e]; exact (hub _ (List.getElem_mem hj)).1
  ·simp [hj]
 have hre : ∀ k, k < D.length → ∃ j x, tmAt tm j k = some x ∧ 0 ≤ x := fun k hk => Classical.byContradiction fun hc => by
  have hF : jnh 1 tm (fun _ => 0) (fun q => if q = k then (costOf l on + 1) else 0) := fun j q x hx hx0 => by
   by_cases hq : q = k
   ·subst hq; exact absurd ⟨j, x, hx, hx0⟩ hc
   ·simp only [hq, if_false]; omega
  have h3 := weak_price hP h.tab h2 hn hf (fun _ => Int.le_refl _) hF
  rw [jgE D k _ hk] at h3
  have hz0 : dn C (fun _ => 0) = 0 := by
   have : ∀ D : List Int, dn D (fun _ => 0) = 0 := fun D => by induction D with | nil => rfl | cons a D ih => simp only [dn, ih]; omega
   exact this C
  rw [hz0] at h3
  have hd := h.db D[k] (List.getElem_mem hk)
  have h4 : 1 * (costOf l on + 1) ≤ D[k] * (costOf l on + 1) := Int.mul_le_mul_of_nonneg_right hd.1 (by omega)
  omega
 have hvk : ∀ k, k < D.length → (∃ j x, tmAt tm j k = some x ∧ 0 ≤ x ∧ vs.getD k 0 = x + us.getD j 0) ∧ ∀ j x, tmAt tm j k = some x → 0 ≤ x → vs.getD k 0 ≤ x + us.getD j 0 := fun k hk => by
  obtain ⟨found, hm⟩ := hv k hk
  cases found with
  | true =>
   obtain ⟨⟨j, x, a1, a2, a3, a4⟩, a5⟩ := hm
   exact ⟨⟨j, x, a2, a3, a4⟩, fun j y hy hy0 => a5 j y (h.tab.cols j k y hy).1 hy hy0⟩
  | false =>
   obtain ⟨_, a5⟩ := hm
   obtain ⟨j, x, b1, b2⟩ := hre k hk
   have := a5 j x (h.tab.cols j k x b1).1 b1
   omega
 have hF : jnh 1 tm (fun j => us.getD j 0) (fun k => vs.getD k 0) := fun j k x hx hx0 => by
  have := (hvk k (h.tab.cols j k x hx).2).2 j x hx hx0
  show vs.getD k 0 ≤ us.getD j 0 + 1 * x
  omega
 have hpk : ∀ k, k < D.length → potF pots (g0 + k) ≤ vs.getD k 0 := fun k hk => by
  obtain ⟨⟨j, x, a1, a2, a3⟩, _⟩ := hvk k hk
  have h3 := jlY hP h.tab h2 hn hf (by omega) ho a1 a2
  rw [a3, hu j (h.tab.cols j k x a1).1]; omega
 have h3 := jgH hP h.tab h2 hn hf ho hz
 have h4 := dn_le (D := D) (u := fun k => potF pots (g0 + k)) (v := fun k => vs.getD k 0) (fun d hd => by have := h.db d hd; omega) hpk
 have h5 : dn C (fun j => potF pots (i0 + j)) = dn C (fun j => us.getD j 0) := jbp fun j hj => (hu j hj).symm
 have h6 := weak_price hP h.tab h2 hn hf hu0 hF
 have hval : dn D (fun k => vs.getD k 0) - dn C (fun j => us.getD j 0) = costOf l on := by omega
 refine ⟨hul, hvl, hub, fun x hx => ?_, hF, hval, ⟨⟨_, _, hu0, hF, hval⟩, fun u v h7 h8 => by have := weak_price hP h.tab h2 hn hf h7 h8; omega⟩, hcost, hfl⟩
 obtain ⟨k, hk, rfl⟩ := List.mem_iff_getElem.1 hx
 have e : vs.getD k 0 = vs[k] := by simp [hk]
 obtain ⟨⟨j, y, a1, a2, a3⟩, _⟩ := hvk k (by omega)
 have hj := (h.tab.cols j k y a1).1
 have := h.tb j k y a1
 have := hb (i0 + j)
 rw [← hu j hj] at this
 rw [← e, a3]; omega
end Go.Proofs.YtgcokllbophkkaaGreat.Flo
namespace Go.Proofs.YtgcokllbophkkaaGreat
open Go Go.W Go.RowKit
def jcn (t c : Int) : Int := if t ≤ 0 then 0 else (t + c - 1) / c
theorem divI_up {a b : Int} (ha : 0 ≤ a) (hb : 1 ≤ b) : (if 0 < (a + b - 1) / b then (a + b - 1) / b else 0) = jcn a b := by
 have h0 : 0 ≤ (a + b - 1) / b := Int.ediv_nonneg (by omega) (by omega)
 unfold jcn
 by_cases h : a ≤ 0
 ·obtain rfl : a = 0 := by omega
  rw [if_pos (Int.le_refl _), Int.ediv_eq_zero_of_lt (by omega) (by omega)]; simp
 ·rw [if_neg h]; split <;> omega
theorem jj4 (a b : Int) (w0 : World) (ha : 0 ≤ a ∧ a ≤ 1152921504606846976) (hb : 1 ≤ b ∧ b ≤ 32) :
  Calls Tryz.prog 93 #[I a, I b] w0 fun e w' => e = .returned (I (jcn a b)) ∧ Below w0.heap.size w0 w' := by
 have H := SH.refl w0
 refine Calls.ofWP Tryz.func93 rfl Tryz.results93 Tryz.ntmps93 rfl<|Y.qr<|Y.bz rfl<|Y.qr<|Y.a rfl<|Y.a rfl<|Y.P rfl<|Y.Q rfl<|Y.a rfl<|Y.v (Ev.quo rfl rfl (by omega) (by omega) (by omega))<|Y.v (Ev.max rfl rfl)<|Y.bz rfl ?_
 refine WP.ret ⟨_, rfl, ?_⟩
 exact ⟨by rw [← divI_up ha.1 hb.1]; rfl, H.below⟩
def jbM (cp hv wt : Int) : Bool := decide (cp = 0) || decide (hv < wt)
def jap : List Value := [I 0, I 0, .slice none 0 0, .slice none 0 0]
def jfE (C D : List Int) (tm : List (List Int)) : List Flo.Arc := Flo.colArcs (1 + C.length) 1 C tm ++ Flo.brArcs (C.length + D.length + 1) (1 + C.length) D
theorem jgb {C D : List Int} {tm : List (List Int)} (h : Flo.Trans C D tm) : (jfE C D tm).length ≤ 300 := by
 unfold jfE
 have h1 := Flo.col_len (K := 16) (1 + C.length) C tm 1 (fun r hr => by
  obtain ⟨j, hj, rfl⟩ := List.mem_iff_getElem.1 hr
  refine Nat.le_of_not_lt fun hc => ?_
  have hx : Flo.tmAt tm j 16 = some (tm[j][16]) := by simp [Flo.tmAt, hj, hc]
  have := (h.tab.cols j 16 _ hx).2
  have := h.dl
  omega)
 have h2 := Flo.br_len (C.length + D.length + 1) D (1 + C.length)
 have := h.cl
 have := h.dl
 rw [List.length_append, h2]; omega
theorem jiu {C D : List Int} {tm : List (List Int)} (h : Flo.Trans C D tm) (A : Option Addr) (cap : Nat) (w0 : World) (hz : Flo.ArcsAt w0 A (jfE C D tm)) :
  Calls Tryz.prog 92 #[.agg #[I (C.length + D.length + 2 : Nat), .slice A (jfE C D tm).length cap], I 0, I ((C.length + D.length + 2 : Nat) - 1), I D.sum] w0 fun e w' =>
   (¬ Flo.Hall C D tm → e = .returned (.tuple #[.agg #[I 0, I 0, .slice none 0 0, .slice none 0 0], I 15]) ∧ Below w0.heap.size w0 w') ∧
   (Flo.Hall C D tm → ∃ (go gp : Nat) (on pots : List Int), e = .returned (.tuple #[.agg #[I D.sum, I (Flo.costOf (jfE C D tm) on), .slice (some ⟨go, 0, none⟩) on.length on.length, .slice (some ⟨gp, 0, none⟩) pots.length pots.length], I 0]) ∧
    Flo.NetOk (C.length + D.length + 2) (jfE C D tm) ∧ Flo.IsFlow (C.length + D.length + 2) (jfE C D tm) 0 (C.length + D.length + 1) on D.sum ∧ Flo.OptPot (Flo.potF pots) (jfE C D tm) on ∧ pots.length = C.length + D.length + 2 ∧ Flo.potF pots 0 = 0 ∧ (∀ x : Int, 0 ≤ Flo.potF pots x ∧ Flo.potF pots x ≤ 1000000000) ∧
    SH w0 [] w' [⟨go, 3, on.map I⟩, ⟨gp, 3, pots.map I⟩]) := by
 have hlen := jgb h
 have hP := Flo.stand_p C D
 have h2 : Flo.Two (jfE C D tm) (Flo.colArcs (1 + C.length) 1 C tm) (Flo.brArcs (C.length + D.length + 1) (1 + C.length) D) := .inl rfl
 have hends := h.ends hP h2 (by omega)
 have hcl := h.cl
 have hdl := h.dl
 have hlast : ((C.length + D.length + 2 : Nat) : Int) - 1 = C.length + D.length + 1 := by omega
 have hds := h.dsum
 refine (Flo.flowCheapest (C.length + D.length + 2 : Nat) 0 ((C.length + D.length + 2 : Nat) - 1) D.sum A (jfE C D tm) cap w0 hz).mono fun e w' ⟨most, hM, hr⟩ => ?_
 rw [hlast] at hM hr
 obtain ⟨_, _, hM3⟩ := hM
 obtain ⟨m, hm, hMax⟩ := hM3 hends
 obtain rfl : m = C.length + D.length + 2 := by omega
 have hH := Flo.most_hall hP h.tab (fun c hc => by have := h.cb c hc; omega) (by omega) h2 hMax
 have hce : Flo.cheapErr (C.length + D.length + 2 : Nat) 0 (C.length + D.length + 1) D.sum (jfE C D tm) most = if most < D.sum then 15 else 0 := by
  rw [Flo.cheapErr, if_neg (by rw [hends]; simp), if_neg (by simp; omega)]
 rw [hce] at hr
 by_cases hHall : Flo.Hall C D tm
 ·have hge := hH.2 hHall
  rw [if_neg (by omega)] at hr
  rcases hr with ⟨h0, _⟩ | ⟨_, m, s, d, go, gp, on, pots, hE, hCk, he, hs⟩
  ·exact absurd rfl h0
  ·refine ⟨fun hn => absurd hHall hn, fun _ => ⟨go, gp, on, pots, he, ?_⟩⟩
   have e1 := hE.hn
   have e2 := hE.hf
   have e3 := hE.ht
   obtain rfl : m = C.length + D.length + 2 := by omega
   obtain rfl : s = 0 := by omega
   obtain rfl : d = C.length + D.length + 1 := by omega
   refine ⟨hE.net, hCk.flow, hCk.opt, hCk.plen, ?_, fun x => ?_, hs⟩
   ·exact hCk.zero
   ·by_cases hx : x.toNat < C.length + D.length + 2
    ·have := hCk.bd x.toNat hx
     have h3 : (65536 : Int) * (C.length + D.length + 2 : Nat) * (C.length + D.length + 2 : Nat) ≤ 65536 * 34 * 34 := Int.mul_le_mul (by omega) (by omega) (by omega) (by omega)
     unfold Flo.potF
     omega
    ·have : Flo.potF pots x = 0 := by
      unfold Flo.potF
      have := hCk.plen
      simp [show ¬ x.toNat < pots.length by omega]
     rw [this]; omega
 ·have hlt : most < D.sum := Int.not_le.1 fun hc => hHall (hH.1 hc)
  rw [if_pos hlt] at hr
  rcases hr with ⟨_, he, hb⟩ | ⟨h0, _⟩
  ·exact ⟨fun _ => ⟨he, hb⟩, fun hc => absurd hc hHall⟩
  ·cases h0
end Go.Proofs.YtgcokllbophkkaaGreat
