/-
 jbO: solve.
-/
import Derived.Test.YtgcokllbophkkaaGreatB1
import Derived.Test.YtgcokllbophkkaaGreatPtr
import Derived.Test.YtgcokllbophkkaaGreatT22
import Derived.Test.YtgcokllbophkkaaGreatFT12
set_option linter.all false
set_option maxHeartbeats 4000000
namespace Go.Proofs.YtgcokllbophkkaaGreat
open Go Go.W Go.RowKit
def jcN (s b : Int) (AU : Option Addr) (nu cu : Nat) (AV : Option Addr) (nv cv : Nat) : List Value := [I s, I b, .slice AU nu cu, .slice AV nv cv]
theorem jd6 {C D : List Int} {tm : List (List Int)} (Ac Ab At : Option Addr) (cs bs : List z6) (rs : List (SlA Int)) (kc kb kt : Nat) (cp hv wt : Int) (w0 : World) (hT : jeB w0 Ac Ab At cs bs rs) (hK : jgP cs bs rs) (hC : C = cs.map (·.move)) (hD : D = bs.map fun x => -x.move) (htm : tm = rs.map (·.l)) :
  Calls Tryz.prog 91 #[.agg (jaH Ac Ab At cs.length bs.length rs.length kc kb kt cp hv wt).toArray] w0 fun e w' => ∃ (A : Option Addr) (cap : Nat) (L : List Blk), e = .returned (.agg #[I (C.length + D.length + 2 : Nat), .slice A (jfE C D tm).length cap]) ∧ Reads L (fun w => Flo.ArcsAt w A (jfE C D tm)) ∧ SH w0 [] w' L := by
 have e1 : jji cs bs rs = jfE C D tm := by subst hC hD htm; simp [jji, jfE]
 have e2 : (cs.length : Int) + bs.length + 1 + 1 = (C.length + D.length + 2 : Nat) := by subst hC hD; simp; omega
 have h := jgK Ac Ab At cs bs rs kc kb kt cp hv wt w0 hT hK
 rw [e1, e2] at h
 exact h
theorem sv2 {a b c d e f g : Blk} {Lu Lv : List Blk} : (a :: (([b, c, d, e, f, g] : List Blk) ++ (Lu ++ Lv))).Perm (([a, b, c, d, e, f, g] ++ Lu) ++ Lv) := jbf fun f => by simp <;> omega
def usL (pots : List Int) (k : Nat) : List Int := (List.range k).map fun i => pots.getD (1 + i) 0
theorem jh3 (pots : List Int) (k : Nat) : usL pots (k + 1) = usL pots k ++ [pots.getD (1 + k) 0] := by simp [usL, List.range_succ]
theorem usL_len (pots : List Int) (k : Nat) : (usL pots k).length = k := by simp [usL]
theorem usL_get (pots : List Int) {k j : Nat} (h : j < k) : (usL pots k).getD j 0 = pots.getD (1 + j) 0 := by simp [usL, h]
set_option maxRecDepth 20000 in
theorem ji5 {C D : List Int} {tm : List (List Int)} (Ac Ab At : Option Addr) (cs bs : List z6) (rs : List (SlA Int)) (kc kb kt : Nat) (cp : Int) (w0 : World) (hT : jeB w0 Ac Ab At cs bs rs) (hK : jgP cs bs rs) (hC : C = cs.map (·.move)) (hD : D = bs.map fun x => -x.move) (htm : tm = rs.map (·.l)) (hX : Flo.Trans C D tm) (hcp : 0 ≤ cp ∧ cp ≤ 32) :
  Calls Tryz.prog 65 #[.agg (jaH Ac Ab At cs.length bs.length rs.length kc kb kt cp C.sum D.sum).toArray] w0 fun e w' =>
   (jbM cp C.sum D.sum = true → e = .returned (.tuple #[.agg jap.toArray, I 10]) ∧ Below w0.heap.size w0 w') ∧
   (jbM cp C.sum D.sum = false → ¬ Flo.Hall C D tm → e = .returned (.tuple #[.agg jap.toArray, I 15]) ∧ Below w0.heap.size w0 w') ∧
   (jbM cp C.sum D.sum = false → Flo.Hall C D tm → ∃ (us vs : List Int) (T : Int) (AU AV : Option Addr) (cu cv : Nat) (L : List Blk), Flo.Solved C D tm us vs T ∧ e = .returned (.tuple #[.agg (jcN (jcn T cp) D.sum AU us.length cu AV vs.length cv).toArray, I 0]) ∧ Reads L (fun w => k9 w AU us ∧ k9 w AV vs) ∧ SH w0 [] w' L) := by
 have H := SH.refl w0
 have hcl := hK.cl
 have hbl := hK.bl
 have hrl := hK.rl
 have hCl : C.length = cs.length := by rw [hC]; simp
 have hDl : D.length = bs.length := by rw [hD]; simp
 have htl : tm.length = rs.length := by rw [htm]; simp
 have hds := hX.dsum
 by_cases hHall : Flo.Hall C D tm
 ·have hHall2 := hHall
  refine Calls.ofWPc Tryz.func65 rfl Tryz.results65 Tryz.ntmps65 rfl<|Y.qr<|Y.bx (cA rfl) H ?_
  clear H; intro g1 w H
  refine Y.al H rfl rfl ?_
  clear H; intro g2 w H
  refine Y.bz rfl<|Y.qq<|Y.W H 1 rfl<|Y.v (Ev.eql rfl rfl)<|Y.B rfl<|Y.gf rfl<|Y.yy H 1 rfl<|Y.gf rfl<|Y.yy H 1 rfl<|Y.g rfl rfl (fun hg => Ev.gtr (gvE hg rfl) (gvE hg rfl))<|Y.po rfl<|Y.z ?_
  refine Y.i rfl (fun hc1 => ?_) fun hc1 => ?_
  ·refine Y.qr<|Y.v (Ev.build (jda (e := fun _ => .int .i64 0)))<|Y.ss 0 H rfl (cA rfl) rfl ?_
   clear H; intro w H
   refine Y.bz rfl ?_
   refine WP.ret ⟨[_, _], ⟨(by exact x6 0 H rfl (j6 rfl) (j4 rfl) (by rfl) rfl), rfl, trivial⟩, ?_⟩
   exact ⟨fun _ => ⟨rfl, H.below⟩, fun h => absurd (show jbM cp C.sum D.sum = true from hc1) (by rw [h]; simp), fun h => absurd (show jbM cp C.sum D.sum = true from hc1) (by rw [h]; simp)⟩
  have hem : jbM cp C.sum D.sum = false := hc1
  have hcp1 : 1 ≤ cp := by simp [jbM] at hem; omega
  refine Y.k<|Y.qr<|Y.O H 1 rfl<|Y.c2 27 rfl (jd6 (C := C) (D := D) (tm := tm) Ac Ab At cs bs rs kc kb kt cp C.sum D.sum w (hT.below H.below) hK hC hD htm) ?_
  rintro _ w ⟨A, cap, LA, rfl, hA, Hc⟩
  refine ⟨_, rfl, ?_⟩
  replace H := SH.call (Lv := []) (by rw [List.append_nil]; exact H) Hc
  clear Hc
  refine Y.al H rfl rfl ?_
  clear H; intro g4 w H
  refine Y.ss 0 H rfl (cA rfl) rfl ?_
  clear H; intro w H
  refine Y.z<|Y.qr<|Y.O H 0 rfl<|Y.W H 0 rfl<|Y.Q rfl<|Y.W H 2 rfl ?_
  have hcheap := Calls.mono (jiu hX A cap w (hA.at H (List.sublist_append_right [_, _, _] _))) fun _ _ h => h.2 hHall
  refine Y.c2 35 rfl (hcheap) ?_
  rintro _ w ⟨go, gp, on, pots, rfl, hN, hf, ho, hpl, hp0, hpb, Hc⟩
  refine ⟨_, rfl, ?_⟩
  replace H := SH.call (Lv := []) (by rw [List.append_nil]; exact H) Hc
  clear Hc hcheap
  refine Y.T rfl<|Y.G rfl<|Y.G rfl<|Y.al H rfl rfl ?_
  clear H; intro g5 w H
  refine Y.ss 0 H rfl (cA rfl) rfl ?_
  clear H; intro w H
  refine Y.bz rfl<|Y.qq<|Y.a rfl<|Y.V rfl<|Y.z ?_
  refine Y.i rfl (fun hc5 => ?_) fun hc5 => ?_
  ·refine Y.qr<|Y.v (Ev.build (jda (e := fun _ => .int .i64 0)))<|Y.ss 2 H rfl (cA rfl) rfl ?_
   clear H; intro w H
   refine Y.bz rfl ?_
   refine WP.ret ⟨[_, _], ⟨(by exact x6 2 H rfl (j6 rfl) (j4 rfl) (by rfl) rfl), rfl, trivial⟩, ?_⟩
   exact absurd hc5 (by decide)
  have hp00 : pots.getD 0 0 = 0 := hp0
  have hpg : ∀ i : Nat, 0 ≤ pots.getD i 0 ∧ pots.getD i 0 ≤ 1000000000 := fun i => by have := hpb (i : Int); simpa [Flo.potF] using this
  obtain ⟨T, hTe⟩ : ∃ T, T = Flo.costOf (jfE C D tm) on := ⟨_, rfl⟩
  have hTb : 0 ≤ T ∧ T ≤ 4000000000000 := by
   have h1 := Flo.costOf_bd hN hf.v (jfE C D tm).length (Nat.le_refl _)
   rw [List.take_length, List.take_of_length_le (by rw [hf.v.len]; omega)] at h1
   have := jgb hX
   omega
  rw [← hTe] at H ⊢
  replace H : SH w0 [] w [⟨g5, 118, [I D.sum, I T, .slice (some ⟨go, 0, none⟩) on.length on.length, .slice (some ⟨gp, 0, none⟩) pots.length pots.length]⟩, ⟨g2, 71, jap⟩, ⟨g1, 108, jaH Ac Ab At cs.length bs.length rs.length kc kb kt cp C.sum D.sum⟩, ⟨go, 3, on.map I⟩, ⟨gp, 3, pots.map I⟩] := by
   have h := (H.reidxT (L := [_, _, _, _]) (L' := [⟨g5, 118, [I D.sum, I T, .slice (some ⟨go, 0, none⟩) on.length on.length, .slice (some ⟨gp, 0, none⟩) pots.length pots.length]⟩, ⟨g2, 71, jap⟩, ⟨g1, 108, jaH Ac Ab At cs.length bs.length rs.length kc kb kt cp C.sum D.sum⟩]) (Lo := LA ++ [⟨go, 3, on.map I⟩, ⟨gp, 3, pots.map I⟩]) [0, 2, 3] (by decide) rfl)
   exact h.drop (List.Sublist.append (List.Sublist.refl [_, _, _]) Y.sr)
  refine Y.k<|Y.q ?_
  refine WP.rheldC [7, 41, 42, 43, 44, 45, 46, 47, 48] (fun u w' => ∃ g7 : Nat, u 7 = .pointer (some ⟨g7, 0, none⟩) ∧ SH w0 [] w' [⟨g7, 71, jcN (jcn T cp) D.sum none 0 0 none 0 0⟩, ⟨g5, 118, [I D.sum, I T, .slice (some ⟨go, 0, none⟩) on.length on.length, .slice (some ⟨gp, 0, none⟩) pots.length pots.length]⟩, ⟨g2, 71, jap⟩, ⟨g1, 108, jaH Ac Ab At cs.length bs.length rs.length kc kb kt cp C.sum D.sum⟩, ⟨go, 3, on.map I⟩, ⟨gp, 3, pots.map I⟩]) mixed H ?_ ?_
  ·clear H; intro w hbw7 H
   refine Y.tf 0 H rfl<|Y.tl 1 H 2 rfl<|Y.tf 2 H rfl<|Y.tl 3 H 0 rfl<|Y.tf 4 H rfl<|Y.tl 5 H 2 rfl ?_
   refine Y.A2 6 8 rfl rfl rfl ?_ ?_
   ·refine Y.cl 47 rfl (jj4 T cp _ (by omega) (by omega)) H ?_
    clear H; intro w H
    refine Y.z <| ⟨(H), ?_⟩
    refine Y.t 7 H rfl rfl (fun w H => Ev.build (jfG rfl rfl))<|Y.A1 8 rfl rfl<|Y.al H rfl rfl ?_
    clear H; intro g7 w H
    refine Y.z <| ⟨(H.drop Y.sc), ?_⟩
    refine Y.A1 9 rfl rfl<|Y.ss 0 H rfl (cA rfl) rfl ?_
    clear H; intro w H
    refine Y.z <| ⟨(H.drop Y.sc), ?_⟩
    refine Y.dn ?_
    exact ⟨Y.ag, g7, rfl, H⟩
   ·refine Y.al H rfl rfl ?_
    clear H; intro g7 w H
    refine Y.z <| ⟨(H.drop Y.sc), ?_⟩
    refine Y.A1 6 rfl rfl<|Y.cl 47 rfl (jj4 T cp _ (by omega) (by omega)) H ?_
    clear H; intro w H
    refine Y.z <| ⟨(H.drop Y.sc), ?_⟩
    refine Y.t 7 (H.drop Y.sc) rfl rfl (fun w H => Ev.build (jfG rfl rfl))<|Y.A1 9 rfl rfl<|Y.ss 0 H rfl (cA rfl) rfl ?_
    clear H; intro w H
    refine Y.z <| ⟨(H.drop Y.sc), ?_⟩
    refine Y.dn ?_
    exact ⟨Y.ag, g7, rfl, H⟩
  clear H
  rintro u w ⟨g7, h7, H⟩
  refine WP.know (t := 7) h7 ?_
  have hp : ∀ w, SH w0 [] w [⟨g5, 118, [I D.sum, I T, .slice (some ⟨go, 0, none⟩) on.length on.length, .slice (some ⟨gp, 0, none⟩) pots.length pots.length]⟩, ⟨g2, 71, jap⟩, ⟨g1, 108, jaH Ac Ab At cs.length bs.length rs.length kc kb kt cp C.sum D.sum⟩, ⟨go, 3, on.map I⟩, ⟨gp, 3, pots.map I⟩] → ∀ i, i < pots.length → w.cell? ⟨gp, 0 + i, none⟩ = some (I (pots.getD i 0)) := fun w H i hi => by rw [Nat.zero_add]; exact jk6 H 4 rfl i hi
  refine Y.qq<|Y.W H 3 rfl<|Y.E rfl<|Y.a rfl<|Y.z<|WP.block<|WP.loop [8, 52, 53, 54, 55, 56, 57, 58, 59, 60, 61, 62, 63, 64, 65, 66, 67, 68, 69, 70, 71, 72] (fun k e w' => ∃ (j : Nat) (AU : Option Addr) (cu : Nat) (Lu : List Blk), j + k = cs.length ∧ e 52 = I j ∧ OwnS AU cu j ((usL pots j).map I) 3 1 Lu ∧ SH w0 [] w' ([⟨g7, 71, jcN (jcn T cp) D.sum AU j cu none 0 0⟩, ⟨g5, 118, [I D.sum, I T, .slice (some ⟨go, 0, none⟩) on.length on.length, .slice (some ⟨gp, 0, none⟩) pots.length pots.length]⟩, ⟨g2, 71, jap⟩, ⟨g1, 108, jaH Ac Ab At cs.length bs.length rs.length kc kb kt cp C.sum D.sum⟩, ⟨go, 3, on.map I⟩, ⟨gp, 3, pots.map I⟩] ++ Lu)) (cs.length) (⟨0, none, 0, [], by omega, rfl, OwnS.nil, by rw [List.append_nil]; exact H⟩) ?_
  clear H
  rintro k u w ⟨j, AU, cu, Lu, hk, h52, hOu, H⟩
  refine WP.know (t := 52) h52<|Y.qr<|Y.lt rfl<|Y.z<|Y.q ?_
  refine Y.i rfl (fun hc9 => ?_) fun hc9 => ?_
  ·have hlt : j < cs.length := by simpa using hc9
   have hb1 := hpg (1 + j)
   refine Y.k<|Y.q<|WP.block<|Y.qr<|Y.a rfl<|Y.bz rfl ?_
   have E := H
   replace H := H.drop (L' := [⟨g5, 118, [I D.sum, I T, .slice (some ⟨go, 0, none⟩) on.length on.length, .slice (some ⟨gp, 0, none⟩) pots.length pots.length]⟩, ⟨g2, 71, jap⟩, ⟨g1, 108, jaH Ac Ab At cs.length bs.length rs.length kc kb kt cp C.sum D.sum⟩, ⟨go, 3, on.map I⟩, ⟨gp, 3, pots.map I⟩]) (Y.sc.trans Y.sl)
   refine WP.rheldC [55, 56, 57, 58, 59, 60, 61, 62, 63, 64, 65, 66, 67, 68, 69, 70, 71] (fun _ w' => ∃ (AU : Option Addr) (cu : Nat) (Lu : List Blk), OwnS AU cu (j + 1) ((usL pots (j + 1)).map I) 3 1 Lu ∧ SH w0 [] w' ([⟨g7, 71, jcN (jcn T cp) D.sum AU (j + 1) cu none 0 0⟩, ⟨g5, 118, [I D.sum, I T, .slice (some ⟨go, 0, none⟩) on.length on.length, .slice (some ⟨gp, 0, none⟩) pots.length pots.length]⟩, ⟨g2, 71, jap⟩, ⟨g1, 108, jaH Ac Ab At cs.length bs.length rs.length kc kb kt cp C.sum D.sum⟩, ⟨go, 3, on.map I⟩, ⟨gp, 3, pots.map I⟩] ++ Lu)) mixed H ?_ ?_
   ·clear H; intro w hbw11 H
    refine Y.tf 0 H rfl<|Y.tf 2 H rfl<|Y.tl 3 H 0 rfl<|Y.t 4 H rfl rfl (fun w H => Y.m rfl)<|Y.t 5 H rfl rfl (fun w H => Y.p rfl rfl)<|Y.t 6 H rfl rfl (fun w H => Ev.indexAddr1 (j := 1 + j) (x7 rfl) (j4 rfl) rfl rfl (by omega) (by omega))<|Y.t 7 H rfl rfl (fun w H => Y.c (hp w H (1 + j) (by omega)) rfl)<|Y.tf 8 H rfl<|Y.tl 9 H 0 rfl<|Y.t 10 H rfl rfl (fun w H => Ev.indexAddr1 (j := 0) (x7 rfl) (j4 rfl) rfl rfl rfl (by omega))<|Y.t 11 H rfl rfl (fun w H => Y.c (hp w H 0 (by omega)) rfl)<|Y.t 12 H rfl rfl (fun w H => Y.s rfl rfl)<|Y.t 13 H rfl rfl (fun w H => Ev.max rfl rfl) ?_
    refine Y.A2 1 14 rfl rfl rfl ?_ ?_
    ·try replace E := E.toBelow hbw11
     refine Y.J E 0 rfl<|Y.z <| ⟨(H), ?_⟩
     refine Y.A1 14 rfl rfl ?_
     try replace E := E.toBelow hbw11
     refine OPS.buildSlice rfl rfl rfl rfl (jaJ rfl) E ?_
     clear H E; intro g69 w E
     have H := E.drop (L' := [⟨g5, 118, [I D.sum, I T, .slice (some ⟨go, 0, none⟩) on.length on.length, .slice (some ⟨gp, 0, none⟩) pots.length pots.length]⟩, ⟨g2, 71, jap⟩, ⟨g1, 108, jaH Ac Ab At cs.length bs.length rs.length kc kb kt cp C.sum D.sum⟩, ⟨go, 3, on.map I⟩, ⟨gp, 3, pots.map I⟩]) (List.Sublist.cons _ (Y.sc.trans Y.sl))
     refine Y.z <| ⟨(H), ?_⟩
     refine Y.A1 15 rfl rfl ?_
     have hmax : (if 0 < pots.getD (1 + j) 0 - pots.getD 0 0 then pots.getD (1 + j) 0 - pots.getD 0 0 else 0) = pots.getD (1 + j) 0 := by rw [hp00]; split <;> omega
     rw [hmax] at E
     refine OPS.append (m := 1) (news := [I (pots.getD (1 + j) 0)]) (R := [⟨g69, 3, [I (pots.getD (1 + j) 0)]⟩, ⟨g7, 71, jcN (jcn T cp) D.sum AU j cu none 0 0⟩, ⟨g5, 118, [I D.sum, I T, .slice (some ⟨go, 0, none⟩) on.length on.length, .slice (some ⟨gp, 0, none⟩) pots.length pots.length]⟩, ⟨g2, 71, jap⟩, ⟨g1, 108, jaH Ac Ab At cs.length bs.length rs.length kc kb kt cp C.sum D.sum⟩, ⟨go, 3, on.map I⟩, ⟨gp, 3, pots.map I⟩]) rfl rfl rfl rfl rfl (z8 rfl) rfl rfl hOu rfl (y0 E 0 rfl) rfl (by omega) (by unfold maxLen; omega) E (List.Perm.refl _) ?_
     clear H E; intro AU2 cu2 Lu2 w hOu E
     rw [show (usL pots j).map I ++ [I (pots.getD (1 + j) 0)] = (usL pots (j + 1)).map I by rw [jh3, List.map_append]; rfl] at hOu
     have H := E.drop (L' := [⟨g5, 118, [I D.sum, I T, .slice (some ⟨go, 0, none⟩) on.length on.length, .slice (some ⟨gp, 0, none⟩) pots.length pots.length]⟩, ⟨g2, 71, jap⟩, ⟨g1, 108, jaH Ac Ab At cs.length bs.length rs.length kc kb kt cp C.sum D.sum⟩, ⟨go, 3, on.map I⟩, ⟨gp, 3, pots.map I⟩]) (List.Sublist.cons _ (Y.sc.trans Y.sl))
     refine Y.z <| ⟨(H), ?_⟩
     refine Y.tf 16 H rfl<|Y.A1 17 rfl rfl ?_
     unfold jcN at E
     refine Y.st 1 E rfl (cS rfl) rfl ?_
     clear H E; intro w E
     have H := E.drop (L' := [⟨g5, 118, [I D.sum, I T, .slice (some ⟨go, 0, none⟩) on.length on.length, .slice (some ⟨gp, 0, none⟩) pots.length pots.length]⟩, ⟨g2, 71, jap⟩, ⟨g1, 108, jaH Ac Ab At cs.length bs.length rs.length kc kb kt cp C.sum D.sum⟩, ⟨go, 3, on.map I⟩, ⟨gp, 3, pots.map I⟩]) (List.Sublist.cons _ (List.Sublist.cons _ (List.sublist_append_left [_, _, _, _, _] _)))
     refine Y.z <| ⟨(H), ?_⟩
     refine Y.dn ?_
     exact ⟨Y.ag, _, _, _, hOu, E.drop Y.sc⟩
    ·try replace E := E.toBelow hbw11
     refine OPS.buildSlice rfl rfl rfl rfl (jaJ rfl) E ?_
     clear H E; intro g69 w E
     have H := E.drop (L' := [⟨g5, 118, [I D.sum, I T, .slice (some ⟨go, 0, none⟩) on.length on.length, .slice (some ⟨gp, 0, none⟩) pots.length pots.length]⟩, ⟨g2, 71, jap⟩, ⟨g1, 108, jaH Ac Ab At cs.length bs.length rs.length kc kb kt cp C.sum D.sum⟩, ⟨go, 3, on.map I⟩, ⟨gp, 3, pots.map I⟩]) (List.Sublist.cons _ (Y.sc.trans Y.sl))
     refine Y.z <| ⟨(H), ?_⟩
     refine Y.A1 1 rfl rfl ?_
     try replace E := E.toBelow hbw11
     refine Y.J E 1 rfl<|Y.z <| ⟨(H), ?_⟩
     refine Y.A1 15 rfl rfl ?_
     have hmax : (if 0 < pots.getD (1 + j) 0 - pots.getD 0 0 then pots.getD (1 + j) 0 - pots.getD 0 0 else 0) = pots.getD (1 + j) 0 := by rw [hp00]; split <;> omega
     rw [hmax] at E
     refine OPS.append (m := 1) (news := [I (pots.getD (1 + j) 0)]) (R := [⟨g69, 3, [I (pots.getD (1 + j) 0)]⟩, ⟨g7, 71, jcN (jcn T cp) D.sum AU j cu none 0 0⟩, ⟨g5, 118, [I D.sum, I T, .slice (some ⟨go, 0, none⟩) on.length on.length, .slice (some ⟨gp, 0, none⟩) pots.length pots.length]⟩, ⟨g2, 71, jap⟩, ⟨g1, 108, jaH Ac Ab At cs.length bs.length rs.length kc kb kt cp C.sum D.sum⟩, ⟨go, 3, on.map I⟩, ⟨gp, 3, pots.map I⟩]) rfl rfl rfl rfl rfl (z8 rfl) rfl rfl hOu rfl (y0 E 0 rfl) rfl (by omega) (by unfold maxLen; omega) E (List.Perm.refl _) ?_
     clear H E; intro AU2 cu2 Lu2 w hOu E
     rw [show (usL pots j).map I ++ [I (pots.getD (1 + j) 0)] = (usL pots (j + 1)).map I by rw [jh3, List.map_append]; rfl] at hOu
     have H := E.drop (L' := [⟨g5, 118, [I D.sum, I T, .slice (some ⟨go, 0, none⟩) on.length on.length, .slice (some ⟨gp, 0, none⟩) pots.length pots.length]⟩, ⟨g2, 71, jap⟩, ⟨g1, 108, jaH Ac Ab At cs.length bs.length rs.length kc kb kt cp C.sum D.sum⟩, ⟨go, 3, on.map I⟩, ⟨gp, 3, pots.map I⟩]) (List.Sublist.cons _ (Y.sc.trans Y.sl))
     refine Y.z <| ⟨(H), ?_⟩
     refine Y.tf 16 H rfl<|Y.A1 17 rfl rfl ?_
     unfold jcN at E
     refine Y.st 1 E rfl (cS rfl) rfl ?_
     clear H E; intro w E
     have H := E.drop (L' := [⟨g5, 118, [I D.sum, I T, .slice (some ⟨go, 0, none⟩) on.length on.length, .slice (some ⟨gp, 0, none⟩) pots.length pots.length]⟩, ⟨g2, 71, jap⟩, ⟨g1, 108, jaH Ac Ab At cs.length bs.length rs.length kc kb kt cp C.sum D.sum⟩, ⟨go, 3, on.map I⟩, ⟨gp, 3, pots.map I⟩]) (List.Sublist.cons _ (List.Sublist.cons _ (List.sublist_append_left [_, _, _, _, _] _)))
     refine Y.z <| ⟨(H), ?_⟩
     refine Y.dn ?_
     exact ⟨Y.ag, _, _, _, hOu, E.drop Y.sc⟩
   clear H
   rintro u w ⟨AU, cu, Lu, hOu, H⟩
   refine Y.r<|Y.P rfl<|Y.a rfl<|Y.z ?_
   exact ⟨Y.ag, k - 1, by omega, j + 1, AU, cu, Lu, by omega, rfl, hOu, H⟩
  have hj : j = cs.length := by simp at hc9; omega
  subst hj
  obtain ⟨us, hus⟩ : ∃ us, us = usL pots cs.length := ⟨_, rfl⟩
  have husl : us.length = cs.length := by rw [hus]; exact usL_len _ _
  have husg : ∀ j, j < cs.length → us.getD j 0 = pots.getD (1 + j) 0 := fun j hj => by rw [hus]; exact usL_get _ hj
  have husb : ∀ j, 0 ≤ us.getD j 0 ∧ us.getD j 0 ≤ 1000000000 := fun j => by
   by_cases hj : j < cs.length
   ·rw [husg j hj]; exact hpg _
   ·simp [show ¬ j < us.length by omega]
  rw [← hus] at hOu
  have hrU : ∀ w R, SH w0 [] w (R ++ Lu) → k9 w AU us := fun w R H => (hOu.ones H).1
  refine WP.exit<|XB.hit<|Y.qq<|Y.W H 3 rfl<|Y.E rfl<|Y.a rfl<|Y.z<|WP.block<|WP.loop [9, 10, 11, 12, 13, 14, 76, 77, 78, 79, 80, 81, 82, 83, 84, 85, 86, 87, 88, 89, 90, 91, 92, 93, 94, 95, 96, 97, 98, 99, 100, 101, 102, 103, 104, 105, 106, 107, 108, 109, 110, 111, 112, 113, 114, 115, 116, 117, 118] (fun k e w' => ∃ (q : Nat) (AV : Option Addr) (cv : Nat) (Lv : List Blk) (vs : List Int), q + k = bs.length ∧ e 76 = I q ∧ vs.length = q ∧ (∀ i, i < q → ∃ found, Flo.VMin tm (fun j => us.getD j 0) i cs.length (vs.getD i 0) found) ∧ OwnS AV cv q (vs.map I) 3 1 Lv ∧ SH w0 [] w' ([⟨g7, 71, jcN (jcn T cp) D.sum AU cs.length cu AV q cv⟩, ⟨g5, 118, [I D.sum, I T, .slice (some ⟨go, 0, none⟩) on.length on.length, .slice (some ⟨gp, 0, none⟩) pots.length pots.length]⟩, ⟨g2, 71, jap⟩, ⟨g1, 108, jaH Ac Ab At cs.length bs.length rs.length kc kb kt cp C.sum D.sum⟩, ⟨go, 3, on.map I⟩, ⟨gp, 3, pots.map I⟩] ++ (Lu ++ Lv))) (bs.length) (⟨0, none, 0, [], [], by omega, rfl, rfl, (fun i h => absurd h (by omega)), OwnS.nil, by rw [List.append_nil]; exact H⟩) ?_
  clear H
  rintro k u w ⟨q, AV, cv, Lv, vs, hk, h76, hvl, hvm, hOv, H⟩
  refine WP.know (t := 76) h76<|Y.qr<|Y.lt rfl<|Y.z<|Y.q ?_
  refine Y.i rfl (fun hc14 => ?_) fun hc14 => ?_
  ·have hltq : q < bs.length := by simpa using hc14
   refine Y.k<|Y.q<|WP.block<|Y.qr<|Y.a rfl<|Y.bz rfl<|Y.qr<|Y.b rfl<|Y.aB rfl<|Y.z<|Y.q<|Y.q ?_
   unfold jcN at H
   refine Y.r<|Y.W H 0 rfl<|Y.E rfl<|Y.a rfl<|Y.z<|WP.block<|WP.loop [10, 11, 12, 13, 14, 82, 83, 84, 85, 86, 87, 88, 89, 90, 91, 92, 93, 94, 95, 96, 97, 98, 99, 100, 101, 102, 103, 104, 105, 106, 107, 108, 109, 110, 111] (fun k e w' => ∃ (i : Nat) (v : Int) (found : Bool), i + k = cs.length ∧ e 82 = I i ∧ e 10 = I v ∧ e 11 = Bo found ∧ Flo.VMin tm (fun j => us.getD j 0) q i v found ∧ (0 ≤ v ∧ v ≤ 2000000000) ∧ SH w0 [] w' ([⟨g7, 71, jcN (jcn T cp) D.sum AU cs.length cu AV q cv⟩, ⟨g5, 118, [I D.sum, I T, .slice (some ⟨go, 0, none⟩) on.length on.length, .slice (some ⟨gp, 0, none⟩) pots.length pots.length]⟩, ⟨g2, 71, jap⟩, ⟨g1, 108, jaH Ac Ab At cs.length bs.length rs.length kc kb kt cp C.sum D.sum⟩, ⟨go, 3, on.map I⟩, ⟨gp, 3, pots.map I⟩] ++ (Lu ++ Lv))) (cs.length) (⟨0, 0, false, by omega, rfl, rfl, rfl, Flo.VMin.zero, by omega, H⟩) ?_
   clear H
   rintro k2 u2 w ⟨i, v, found, hk2, h82, h10, h11, hVM, hvb, H⟩
   refine WP.know (t := 82) h82 (WP.know (t := 10) h10 (WP.know (t := 11) h11 ?_))
   refine Y.qr<|Y.lt rfl<|Y.z<|Y.q ?_
   refine Y.i rfl (fun hc18 => ?_) fun hc18 => ?_
   ·have hlti : i < cs.length := by simpa using hc18
    obtain ⟨bu, ou, rfl, hxu⟩ := hrU w _ (H.drop (List.Sublist.append (List.Sublist.refl _) (List.sublist_append_left Lu Lv))) i (by omega)
    have hug : us[i]'(by omega) = us.getD i 0 := by simp [show i < us.length by omega]
    rw [hug] at hxu
    have hub := husb i
    obtain ⟨r, hre⟩ : ∃ r, r = rs[i]'(by omega) := ⟨_, rfl⟩
    have hrm : r ∈ rs := by rw [hre]; exact List.getElem_mem _
    have hrI := hT.r r hrm
    have hrb := hK.row r hrm
    obtain ⟨bt, ot, rfl, hxt⟩ := hT.t i (by omega)
    rw [← hre] at hxt
    have hxe : Flo.tmAt tm i q = some (r.l[q]'(by omega)) := by
     have e1 : (rs.map (·.l))[i]? = some r.l := by simp [show i < rs.length by omega, ← hre]
     rw [← htm] at e1
     unfold Flo.tmAt
     rw [e1]
     simp [show q < r.l.length by omega]
    clear hre hrm
    obtain ⟨rA, rc, rl⟩ := r
    simp only [slV] at hxt hrI hrb hxe
    obtain ⟨br, orr, rfl, hxr⟩ := hrI q (by omega)
    obtain ⟨x, hx⟩ : ∃ x, x = rl[q]'(by omega) := ⟨_, rfl⟩
    rw [← hx] at hxr hxe
    have hxb := hX.tb i q x hxe
    have hstep := hVM.step hxe
    unfold jcN at H
    refine Y.k<|Y.q<|WP.block<|Y.qr<|Y.a rfl<|Y.I rfl<|Y.v (Y.c (by assumption) rfl) ?_
    refine Y.b rfl<|Y.bz rfl<|Y.qr<|Y.W H 3 rfl<|Y.a rfl<|Y.I rfl<|Y.v (Y.c (H.ld0 (by assumption)) rfl) ?_
    refine Y.a rfl<|Y.I rfl<|Y.v (Y.c (H.ld0 (by assumption)) rfl) ?_
    refine Y.bz rfl<|Y.qr<|Y.a rfl<|Y.v (Ev.geq rfl rfl)<|Y.B rfl<|Y.g rfl rfl (fun hg => Ev.mvB rfl)<|Y.g rfl rfl (fun hg => Ev.not (gvE hg rfl))<|Y.g rfl rfl (fun hg => Ev.mvB (gvE hg rfl))<|OPS.gvalN rfl rfl (GB.g rfl) rfl rfl (fun hg => Ev.mvI rfl)<|OPS.gvalN rfl rfl (GB.g rfl) rfl rfl (fun hg => Ev.mvI rfl)<|OPS.gvalN rfl rfl (GB.g rfl) rfl rfl (fun hg => Ev.add (gvE hg rfl) (gvE hg rfl) (by unfold fits; omega))<|OPS.gvalN rfl rfl (GB.g rfl) rfl rfl (fun hg => Ev.mvI rfl)<|OPS.gvalN rfl rfl (GB.g rfl) rfl rfl (fun hg => Ev.lss (gvE hg rfl) (gvE hg rfl))<|Y.g rfl rfl (fun hg => Ev.pickOr2 (beqT hg) (gvE hg rfl) rfl rfl)<|Y.pa rfl<|Y.z ?_
    refine Y.i rfl (fun hc21 => ?_) fun hc21 => ?_
    ·have hcd : (decide (0 ≤ x) && (!found || decide (x + us.getD i 0 < v))) = true := hc21
     have hx0 : 0 ≤ x := by simp at hcd; exact hcd.1
     rw [if_pos hcd, show (found || decide (0 ≤ x)) = true by simp [hx0]] at hstep
     have hvb2 : 0 ≤ x + us.getD i 0 ∧ x + us.getD i 0 ≤ 2000000000 := by omega
     refine Y.r<|Y.a rfl<|Y.a rfl<|Y.P rfl<|Y.b rfl<|Y.aB rfl<|Y.z<|Y.r<|Y.P rfl<|Y.a rfl<|Y.z ?_
     exact ⟨Y.ag, k2 - 1, by omega, i + 1, _, _, by omega, rfl, rfl, rfl, hstep, hvb2, H⟩
    have hcd : (decide (0 ≤ x) && (!found || decide (x + us.getD i 0 < v))) = false := hc21
    rw [if_neg (by rw [hcd]; simp), show (found || decide (0 ≤ x)) = found by
     cases found with
     | true => rfl
     | false => simp at hcd; simp; omega] at hstep
    have hvb2 := hvb
    refine Y.k<|Y.r<|Y.P rfl<|Y.a rfl<|Y.z ?_
    exact ⟨Y.ag, k2 - 1, by omega, i + 1, _, _, by omega, rfl, rfl, rfl, hstep, hvb2, H⟩
   have hi : i = cs.length := by simp at hc18; omega
   subst hi
   refine WP.exit<|XB.hit<|Y.r<|Y.W H 0 rfl<|Y.a rfl<|OPS.buildSlice rfl rfl rfl rfl (jaJ rfl) H ?_
   clear H; intro g115 w H
   refine OPS.append (m := 1) (news := [I v]) (R := [⟨g115, 3, [I v]⟩, ⟨g7, 71, jcN (jcn T cp) D.sum AU cs.length cu AV q cv⟩, ⟨g5, 118, [I D.sum, I T, .slice (some ⟨go, 0, none⟩) on.length on.length, .slice (some ⟨gp, 0, none⟩) pots.length pots.length]⟩, ⟨g2, 71, jap⟩, ⟨g1, 108, jaH Ac Ab At cs.length bs.length rs.length kc kb kt cp C.sum D.sum⟩, ⟨go, 3, on.map I⟩, ⟨gp, 3, pots.map I⟩] ++ Lu) rfl rfl rfl rfl rfl (z8 rfl) rfl rfl hOv rfl (y0 H 0 rfl) rfl (by omega) (by unfold maxLen; omega) H sv2 ?_
   clear H hOv; intro AV cv Lv w hOv H
   unfold jcN at H
   simp only [List.cons_append, List.nil_append] at H
   refine Y.F rfl<|Y.ss 1 H rfl (cS rfl) rfl ?_
   clear H; intro w H
   refine Y.z<|Y.r<|Y.P rfl<|Y.a rfl<|Y.z ?_
   refine ⟨Y.ag, k - 1, by omega, q + 1, AV, cv, Lv, vs ++ [v], by omega, rfl, by simp [hvl], fun i hi => ?_, (by rw [List.map_append]; exact hOv), ?_⟩
   ·by_cases hiq : i = q
    ·subst hiq
     refine ⟨found, ?_⟩
     have e : (vs ++ [v]).getD i 0 = v := by rw [← hvl]; simp
     rw [e]; exact hVM
    ·obtain ⟨f, hf⟩ := hvm i (by omega)
     refine ⟨f, ?_⟩
     have e : (vs ++ [v]).getD i 0 = vs.getD i 0 := by simp [List.getElem?_append_left (show i < vs.length by omega)]
     rw [e]; exact hf
   ·exact H.drop Y.sc
  have hq : q = bs.length := by simp at hc14; omega
  subst hq
  have hsol : Flo.Solved C D tm us vs T := by
   rw [hTe]
   refine Flo.solved_of hX hN (Flo.stand_p C D) (.inl rfl) hf ho hp0 hpb (by omega) (fun j hj => ?_) (by omega) (fun k hk => ?_) ⟨on, hf, rfl⟩
   ·rw [husg j (by omega)]; unfold Flo.potF; rw [show ((1 : Int) + (j : Int)).toNat = 1 + j by omega]
   ·rw [hCl]; exact hvm k (by omega)
  unfold jcN jap at H
  simp only [List.cons_append, List.nil_append] at H
  refine WP.exit<|XB.hit<|Y.qr<|Y.O H 0 rfl<|Y.ss 2 H rfl (cA rfl) rfl ?_
  clear H; intro w H
  refine Y.bz rfl ?_
  refine WP.ret ⟨[_, _], ⟨(by exact x6 2 H rfl (j6 rfl) (j4 rfl) (by rfl) rfl), rfl, trivial⟩, ?_⟩
  have H2 : SH w0 [] w ([_, _, _, _, _, _] ++ (Lu ++ Lv)) := H
  refine ⟨fun h => absurd hem (by rw [h]; simp), fun _ h => absurd hHall h, fun _ _ => ⟨us, vs, T, AU, AV, cu, cv, Lu ++ Lv, hsol, ?_, fun w0 S w H => ?_, H2.drop Y.sr⟩⟩
  ·rw [husl, hvl]; rfl
  ·exact ⟨(hOu.ones (R := Lv) (H.perm List.perm_append_comm)).1, (hOv.ones H).1⟩
 ·have hHall2 := hHall
  refine Calls.ofWPc Tryz.func65 rfl Tryz.results65 Tryz.ntmps65 rfl<|Y.qr<|Y.bx (cA rfl) H ?_
  clear H; intro g1 w H
  refine Y.al H rfl rfl ?_
  clear H; intro g2 w H
  refine Y.bz rfl<|Y.qq<|Y.W H 1 rfl<|Y.v (Ev.eql rfl rfl)<|Y.B rfl<|Y.gf rfl<|Y.yy H 1 rfl<|Y.gf rfl<|Y.yy H 1 rfl<|Y.g rfl rfl (fun hg => Ev.gtr (gvE hg rfl) (gvE hg rfl))<|Y.po rfl<|Y.z ?_
  refine Y.i rfl (fun hc1 => ?_) fun hc1 => ?_
  ·refine Y.qr<|Y.v (Ev.build (jda (e := fun _ => .int .i64 0)))<|Y.ss 0 H rfl (cA rfl) rfl ?_
   clear H; intro w H
   refine Y.bz rfl ?_
   refine WP.ret ⟨[_, _], ⟨(by exact x6 0 H rfl (j6 rfl) (j4 rfl) (by rfl) rfl), rfl, trivial⟩, ?_⟩
   exact ⟨fun _ => ⟨rfl, H.below⟩, fun h => absurd (show jbM cp C.sum D.sum = true from hc1) (by rw [h]; simp), fun h => absurd (show jbM cp C.sum D.sum = true from hc1) (by rw [h]; simp)⟩
  have hem : jbM cp C.sum D.sum = false := hc1
  refine Y.k<|Y.qr<|Y.O H 1 rfl<|Y.c2 27 rfl (jd6 (C := C) (D := D) (tm := tm) Ac Ab At cs bs rs kc kb kt cp C.sum D.sum w (hT.below H.below) hK hC hD htm) ?_
  rintro _ w ⟨A, cap, LA, rfl, hA, Hc⟩
  refine ⟨_, rfl, ?_⟩
  replace H := SH.call (Lv := []) (by rw [List.append_nil]; exact H) Hc
  clear Hc
  refine Y.al H rfl rfl ?_
  clear H; intro g4 w H
  refine Y.ss 0 H rfl (cA rfl) rfl ?_
  clear H; intro w H
  refine Y.z<|Y.qr<|Y.O H 0 rfl<|Y.W H 0 rfl<|Y.Q rfl<|Y.W H 2 rfl ?_
  have hcheap := Calls.mono (jiu hX A cap w (hA.at H (List.sublist_append_right [_, _, _] _))) fun _ _ h => h.1 hHall
  refine Y.cl 35 rfl (hcheap) H ?_
  clear H; intro w H
  refine Y.T rfl<|Y.G rfl<|Y.G rfl<|Y.al H rfl rfl ?_
  clear H; intro g5 w H
  refine Y.ss 0 H rfl (cA rfl) rfl ?_
  clear H; intro w H
  refine Y.bz rfl<|Y.qq<|Y.a rfl<|Y.V rfl<|Y.z ?_
  refine Y.i rfl (fun hc5 => ?_) fun hc5 => ?_
  ·refine Y.qr<|Y.v (Ev.build (jda (e := fun _ => .int .i64 0)))<|Y.ss 2 H rfl (cA rfl) rfl ?_
   clear H; intro w H
   refine Y.bz rfl ?_
   refine WP.ret ⟨[_, _], ⟨(by exact x6 2 H rfl (j6 rfl) (j4 rfl) (by rfl) rfl), rfl, trivial⟩, ?_⟩
   exact ⟨fun h => absurd hem (by rw [h]; simp), fun _ _ => ⟨rfl, H.below⟩, fun _ h => absurd h hHall⟩
  refine Y.k<|Y.q ?_
  exact absurd hc5 (by decide)
end Go.Proofs.YtgcokllbophkkaaGreat
namespace Go.Proofs.YtgcokllbophkkaaGreat
open Go Go.W Go.RowKit
theorem jkP {m : Nat} {l : List Edg} {ns : List z6} {j k : Nat} {x : Int} (h : Flo.tmAt (jct m l ns) j k = some x) : ∃ (hj : j < (jaC ns).length) (hk : k < (jaD ns).length), x = x9 m l (jaC ns)[j].node.toNat (jaD ns)[k].node.toNat := by
 unfold Flo.tmAt jct at h
 rw [List.getElem?_map] at h
 cases hj : (jaC ns)[j]? with
 | none => rw [hj] at h; simp at h
 | some a =>
  rw [hj] at h
  simp only [Option.map_some, Option.bind_some, List.getElem?_map] at h
  cases hk : (jaD ns)[k]? with
  | none => rw [hk] at h; simp at h
  | some b =>
   rw [hk] at h
   simp at h
   obtain ⟨h1, h2⟩ := List.getElem?_eq_some_iff.1 hj
   obtain ⟨h3, h4⟩ := List.getElem?_eq_some_iff.1 hk
   exact ⟨h1, h3, by rw [← h, h2, h4]⟩
theorem jlq {m : Nat} {l : List Edg} {ns : List z6} {j k : Nat} (hj : j < (jaC ns).length) (hk : k < (jaD ns).length) : Flo.tmAt (jct m l ns) j k = some (x9 m l (jaC ns)[j].node.toNat (jaD ns)[k].node.toNat) := by
 unfold Flo.tmAt jct
 simp [hj, hk]
theorem jeI {m : Nat} {l : List Edg} {ts : List q9} {ns : List z6} {hd : Int} (hK : jbU m l ts ns hd) : Flo.Trans (jbg ns) (jao ns) (jct m l ns) := by
 have hl1 : (jaC ns).length ≤ ns.length := List.length_filter_le _ _
 have hl2 : (jaD ns).length ≤ ns.length := List.length_filter_le _ _
 have hnl := hK.nl
 have hcl : (jbg ns).length = (jaC ns).length := by simp [jbg]
 have hdl : (jao ns).length = (jaD ns).length := by simp [jao]
 have hdb : ∀ d ∈ jao ns, 1 ≤ d ∧ d ≤ 32 := fun d hd => by
  obtain ⟨y, hy, rfl⟩ := List.mem_map.1 hd
  obtain ⟨h1, h2⟩ := List.mem_filter.1 hy
  have := hK.nd y h1
  simp at h2; omega
 refine ⟨⟨by simp [jct, jbg], fun j k x hx => ?_, fun d hd => by have := hdb d hd; omega⟩, fun c hc => ?_, hdb, by omega, by omega, fun j k x hx => ?_, fun j k hj hk => ⟨_, jlq (by omega) (by omega)⟩⟩
 ·obtain ⟨h1, h2, _⟩ := jkP hx; omega
 ·obtain ⟨y, hy, rfl⟩ := List.mem_map.1 hc
  obtain ⟨h1, h2⟩ := List.mem_filter.1 hy
  have := hK.nd y h1
  simp at h2; omega
 ·obtain ⟨h1, h2, rfl⟩ := jkP hx
  have a1 := hK.nd (jaC ns)[j] (List.mem_filter.1 (List.getElem_mem h1)).1
  have a2 := hK.nd (jaD ns)[k] (List.mem_filter.1 (List.getElem_mem h2)).1
  exact jca hK.road (by omega) (by omega)
theorem task_ok {m : Nat} {l : List Edg} {ts : List q9} {ns : List z6} {hd : Int} {rs : List (SlA Int)} (hK : jbU m l ts ns hd) (hr : rs.map (·.l) = jct m l ns) : jgP (jaC ns) (jaD ns) rs := by
 have hl1 : (jaC ns).length ≤ ns.length := List.length_filter_le _ _
 have hl2 : (jaD ns).length ≤ ns.length := List.length_filter_le _ _
 have hnl := hK.nl
 refine ⟨by omega, by omega, ?_, fun r h => ?_, fun x hx => ?_, fun x hx => ?_⟩
 ·have := congrArg List.length hr
  simpa [jct] using this
 ·have : r.l ∈ jct m l ns := by rw [← hr]; exact List.mem_map_of_mem h
  obtain ⟨y, _, hy⟩ := List.mem_map.1 this
  rw [← hy]; simp
 ·have := hK.nd x (List.mem_filter.1 hx).1; omega
 ·have := hK.nd x (List.mem_filter.1 hx).1; omega
theorem jh1 {m : Nat} {l : List Edg} {ts : List q9} {ns : List z6} {hd : Int} (hK : jbU m l ts ns hd) : 0 ≤ jbx ts ∧ jbx ts ≤ 32 := by
 have h : ∀ j, j ≤ ts.length → 0 ≤ jbx (ts.take j) ∧ jbx (ts.take j) ≤ 32 := fun j => by
  induction j with
  | zero => intro _; simp [jbx]
  | succ j ih =>
   intro hj
   have := ih (by omega)
   have := hK.tr ts[j] (List.getElem_mem (by omega))
   rw [jd1 (show j < ts.length by omega)]
   split <;> omega
 have := h ts.length (Nat.le_refl _)
 rwa [List.take_length] at this
open Classical in
noncomputable def jaR (cp : Int) (C D : List Int) (tm : List (List Int)) : Int := if jbM cp C.sum D.sum = true then 10 else if Flo.Hall C D tm then 0 else 15
theorem jhn {C D : List Int} {tm : List (List Int)} (Ac Ab At : Option Addr) (cs bs : List z6) (rs : List (SlA Int)) (kc kb kt : Nat) (cp : Int) (w0 : World) (hT : jeB w0 Ac Ab At cs bs rs) (hK : jgP cs bs rs) (hC : C = cs.map (·.move)) (hD : D = bs.map fun x => -x.move) (htm : tm = rs.map (·.l)) (hX : Flo.Trans C D tm) (hcp : 0 ≤ cp ∧ cp ≤ 32) :
  Calls Tryz.prog 65 #[.agg (jaH Ac Ab At cs.length bs.length rs.length kc kb kt cp C.sum D.sum).toArray] w0 fun e w' => ∃ (s b : Int) (us vs : List Int) (AU AV : Option Addr) (cu cv : Nat) (L : List Blk),
   e = .returned (.tuple #[.agg (jcN s b AU us.length cu AV vs.length cv).toArray, I (jaR cp C D tm)]) ∧ (jaR cp C D tm ≠ 0 → s = 0 ∧ b = 0 ∧ us = [] ∧ vs = []) ∧ (jaR cp C D tm = 0 → ∃ T, Flo.Solved C D tm us vs T ∧ s = jcn T cp ∧ b = D.sum ∧ 1 ≤ cp) ∧ Reads L (fun w => k9 w AU us ∧ k9 w AV vs) ∧ SH w0 [] w' L :=
 (ji5 Ac Ab At cs bs rs kc kb kt cp w0 hT hK hC hD htm hX hcp).mono fun e w' ⟨h1, h2, h3⟩ => by
  cases he : jbM cp C.sum D.sum with
  | true =>
   obtain ⟨rfl, hb⟩ := h1 he
   have hs : jaR cp C D tm = 10 := by rw [jaR, if_pos he]
   exact ⟨0, 0, [], [], none, none, 0, 0, [], by rw [hs]; rfl, fun _ => ⟨rfl, rfl, rfl, rfl⟩, (fun h => by rw [hs] at h; cases h), fun _ _ _ _ => ⟨jaa.nil, jaa.nil⟩, (SH.refl w0).toBelow hb⟩
  | false =>
   by_cases hH : Flo.Hall C D tm
   ·obtain ⟨us, vs, T, AU, AV, cu, cv, L, g1, rfl, g2, g3⟩ := h3 he hH
    have hs : jaR cp C D tm = 0 := by rw [jaR, if_neg (by rw [he]; simp), if_pos hH]
    refine ⟨jcn T cp, D.sum, us, vs, AU, AV, cu, cv, L, by rw [hs], fun h => absurd hs h, fun _ => ⟨T, g1, rfl, rfl, ?_⟩, g2, g3⟩
    simp [jbM] at he; omega
   ·obtain ⟨rfl, hb⟩ := h2 he hH
    have hs : jaR cp C D tm = 15 := by rw [jaR, if_neg (by rw [he]; simp), if_neg hH]
    exact ⟨0, 0, [], [], none, none, 0, 0, [], by rw [hs]; rfl, fun _ => ⟨rfl, rfl, rfl, rfl⟩, (fun h => by rw [hs] at h; cases h), fun _ _ _ _ => ⟨jaa.nil, jaa.nil⟩, (SH.refl w0).toBelow hb⟩
noncomputable def jav (n : Int) (l : List Edg) (ts : List q9) (ns : List z6) (hd : Int) : Int := if q7 n l ts ns hd ≠ 0 then q7 n l ts ns hd else jaR (jbx ts) (jbg ns) (jao ns) (jct n.toNat l ns)
structure jeq (n : Int) (l : List Edg) (ts : List q9) (ns : List z6) (hd s b : Int) (us vs : List Int) : Prop where
 bad : jav n l ts ns hd ≠ 0 → s = 0 ∧ b = 0 ∧ us = [] ∧ vs = []
 good : jav n l ts ns hd = 0 → ∃ (m : Nat) (T : Int), n = m ∧ jbU m l ts ns hd ∧ Flo.Solved (jbg ns) (jao ns) (jct m l ns) us vs T ∧ s = jcn T (jbx ts) ∧ b = (jao ns).sum ∧ 1 ≤ jbx ts
theorem jlb (n hd : Int) (A B C : Option Addr) (l : List Edg) (ts : List q9) (ns : List z6) (ca cb cc : Nat) (w0 : World) (hN : jaE w0 A B C l ts ns cc) :
  Calls Tryz.prog 39 #[.agg #[I n, .slice A l.length ca, .slice B ts.length cb, .slice C ns.length cc, I hd]] w0 fun e w' => ∃ (s b : Int) (us vs : List Int) (AU AV : Option Addr) (cu cv : Nat) (L : List Blk),
   e = .returned (.tuple #[.agg (jcN s b AU us.length cu AV vs.length cv).toArray, I (jav n l ts ns hd)]) ∧ jeq n l ts ns hd s b us vs ∧ Reads L (fun w => k9 w AU us ∧ k9 w AV vs) ∧ SH w0 [] w' L := by
 have H := SH.refl w0
 by_cases h0 : q7 n l ts ns hd = 0
 ·obtain ⟨m, rfl, hK⟩ := jaO h0
  have hX := jeI hK
  have hcb := jh1 hK
  have hfe : jav m l ts ns hd = jaR (jbx ts) (jbg ns) (jao ns) (jct m l ns) := by rw [jav, if_neg (by simp [h0])]; simp
  refine Calls.ofWPc Tryz.func39 rfl Tryz.results39 Tryz.ntmps39 rfl<|Y.qr<|Y.bx (cA rfl) H ?_
  clear H; intro g1 w H
  refine Y.al H rfl rfl ?_
  clear H; intro g2 w H
  refine Y.bz rfl<|Y.qr<|Y.O H 1 rfl<|Y.c2 8 rfl (Calls.mono (jgT m hd A B C l ts ns ca cb cc w (hN.sh H)) fun _ _ h => h.2 h0) ?_
  rintro _ w ⟨m2, Ac, Ab, At, rs, kc, kb, kt, LT, hm2, hrs, hT, rfl, Hc⟩
  refine ⟨_, rfl, ?_⟩
  replace H := SH.call (Lv := []) (by rw [List.append_nil]; exact H) Hc
  clear Hc
  obtain rfl : m = m2 := by omega
  have hTK := task_ok hK hrs
  refine Y.T rfl<|Y.G rfl<|Y.G rfl<|Y.al H rfl rfl ?_
  clear H; intro g4 w H
  refine Y.ss 0 H rfl (cA rfl) rfl ?_
  clear H; intro w H
  refine Y.bz rfl<|Y.qq<|Y.a rfl<|Y.V rfl<|Y.z ?_
  refine Y.i rfl (fun hc2 => ?_) fun hc2 => ?_
  ·refine Y.qr<|Y.v (Ev.build (jda (e := fun _ => .int .i64 0)))<|Y.a rfl<|Y.ss 1 H rfl (cA rfl) rfl ?_
   clear H; intro w H
   refine Y.bz rfl ?_
   refine WP.ret ⟨[_, _], ⟨(by exact x6 1 H rfl (j6 rfl) (j4 rfl) (by rfl) rfl), rfl, trivial⟩, ?_⟩
   exact absurd hc2 (by decide)
  refine Y.k<|Y.q ?_
  simp only [List.cons_append, List.nil_append] at H
  refine Y.r<|Y.O H 0 rfl<|Y.c2 16 rfl (jhn (C := jbg ns) (D := jao ns) (tm := jct m l ns) Ac Ab At (jaC ns) (jaD ns) rs kc kb kt (jbx ts) w (hT.at H (List.sublist_append_right [_, _, _] _)) hTK rfl rfl hrs.symm hX hcb) ?_
  rintro _ w ⟨s, b, us, vs, AU, AV, cu, cv, L, rfl, hbad, hgood, hrd, Hc⟩
  refine ⟨_, rfl, ?_⟩
  replace H := SH.call (Lv := []) (by rw [List.append_nil]; exact H) Hc
  clear Hc
  simp only [List.cons_append, List.nil_append] at H
  rw [← hfe]
  refine Y.G rfl<|Y.G rfl<|Y.ss 1 H rfl (cA rfl) rfl ?_
  clear H; intro w H
  refine Y.bz rfl ?_
  refine WP.ret ⟨[_, _], ⟨(by exact x6 1 H rfl (j6 rfl) (j4 rfl) (by rfl) rfl), rfl, trivial⟩, ?_⟩
  refine ⟨s, b, us, vs, AU, AV, cu, cv, L, rfl, ⟨fun h => hbad (by rw [← hfe]; exact h), fun h => ?_⟩, hrd, ?_⟩
  ·obtain ⟨T, q1, q2, q3, q4⟩ := hgood (by rw [← hfe]; exact h)
   exact ⟨m, T, rfl, hK, q1, q2, q3, q4⟩
  ·exact H.drop (List.Sublist.cons _ (List.Sublist.cons _ (List.Sublist.cons _ (List.sublist_append_right LT L))))
 ·have hfe : jav n l ts ns hd = q7 n l ts ns hd := by rw [jav, if_pos h0]
  have h0' := h0
  refine Calls.ofWPc Tryz.func39 rfl Tryz.results39 Tryz.ntmps39 rfl<|Y.qr<|Y.bx (cA rfl) H ?_
  clear H; intro g1 w H
  refine Y.al H rfl rfl ?_
  clear H; intro g2 w H
  refine Y.bz rfl<|Y.qr<|Y.O H 1 rfl<|Y.cl 8 rfl (Calls.mono (jgT n hd A B C l ts ns ca cb cc w (hN.sh H)) fun _ _ h => h.1 h0) H ?_
  clear H; intro w H
  refine Y.T rfl<|Y.G rfl<|Y.G rfl<|Y.al H rfl rfl ?_
  clear H; intro g4 w H
  refine Y.ss 0 H rfl (cA rfl) rfl ?_
  clear H; intro w H
  refine Y.bz rfl<|Y.qq<|Y.a rfl<|Y.V rfl<|Y.z ?_
  refine Y.i rfl (fun hc2 => ?_) fun hc2 => ?_
  ·refine Y.qr<|Y.v (Ev.build (jda (e := fun _ => .int .i64 0)))<|Y.a rfl<|Y.ss 1 H rfl (cA rfl) rfl ?_
   clear H; intro w H
   refine Y.bz rfl ?_
   refine WP.ret ⟨[_, _], ⟨(by exact x6 1 H rfl (j6 rfl) (j4 rfl) (by rfl) rfl), rfl, trivial⟩, ?_⟩
   exact ⟨0, 0, [], [], none, none, 0, 0, [], by rw [hfe]; rfl, ⟨fun _ => ⟨rfl, rfl, rfl, rfl⟩, fun h => absurd (hfe ▸ h) h0⟩, fun _ _ _ _ => ⟨jaa.nil, jaa.nil⟩, H.drop Y.sn⟩
  refine Y.k<|Y.q ?_
  exact absurd hc2 (by simp [h0])
end Go.Proofs.YtgcokllbophkkaaGreat
namespace Go.Proofs.YtgcokllbophkkaaGreat
open Go Go.W Go.RowKit
theorem tm1 {a x : Int} {j k : Nat} (h : Flo.tmAt [[a]] j k = some x) : j = 0 ∧ k = 0 ∧ x = a := by
 unfold Flo.tmAt at h
 match j, k, h with
 | 0, 0, h => simp at h; exact ⟨rfl, rfl, h.symm⟩
 | 0, k + 1, h => simp at h
 | j + 1, k, h => simp at h
end Go.Proofs.YtgcokllbophkkaaGreat
namespace Go.Proofs.YtgcokllbophkkaaGreat
open Go Go.W Go.RowKit
theorem jgg {n hd : Int} {l : List Edg} {ts : List q9} {ns : List z6} (h : jav n l ts ns hd = 0) : ∃ m : Nat, n = m ∧ jbU m l ts ns hd ∧ jbM (jbx ts) (jbg ns).sum (jao ns).sum = false ∧ Flo.Hall (jbg ns) (jao ns) (jct m l ns) := by
 unfold jav at h
 split at h
 ·rename_i h1; exact absurd h h1
 ·rename_i h1
  obtain ⟨m, rfl, hK⟩ := jaO (by simpa using h1)
  unfold jaR at h
  split at h
  ·cases h
  ·rename_i h2
   split at h
   ·rename_i h3; exact ⟨m, rfl, hK, by simpa using h2, by simpa using h3⟩
   ·cases h
end Go.Proofs.YtgcokllbophkkaaGreat
namespace Go.Proofs.YtgcokllbophkkaaGreat
open Go Go.W Go.RowKit
noncomputable def jfp (n : Int) (l : List Edg) (ts : List q9) (ns : List z6) (hd : Int) (rs : List Rt) : Int := (rs.map fun r => jf3 n l ts ns hd r.trk r.nd.l).sum
theorem jdJ {n hd : Int} {l : List Edg} {ts : List q9} {ns : List z6} {rs : List Rt} {j : Nat} (hj : j < rs.length) : jfp n l ts ns hd (rs.take (j + 1)) = jfp n l ts ns hd (rs.take j) + jf3 n l ts ns hd rs[j].trk rs[j].nd.l := by
 rw [List.take_succ_eq_append_getElem hj]; unfold jfp; rw [List.map_append, List.sum_append, List.map_cons, List.map_nil, List.sum_cons, List.sum_nil, Int.add_zero]
theorem jhm {n hd rt : Int} {l : List Edg} {ts : List q9} {ns : List z6} {rn : List Int} (h : y7 n l ts ns hd rt rn = 0) : 0 ≤ jf3 n l ts ns hd rt rn ∧ jf3 n l ts ns hd rt rn ≤ 2000000 := by
 obtain ⟨m, q, t, rfl, rfl, hW⟩ := jlz h
 have h1 := hW.ts rn.length (Nat.le_refl _)
 rw [List.take_length] at h1
 have h2 := je8 hW.nd hW.hr
 have h3 := hW.night.nl
 obtain ⟨dv, hdv⟩ := Int.eq_ofNat_of_zero_le hW.tr.1.1
 have hdm := hW.tr.1.2
 have h4 := jca (v := t.depot.toNat) hW.night.road h1.at_ (by omega)
 have h5 : 0 ≤ x9 m l (goT (jac m l) hd ns rn (y3 t)).at_ t.depot.toNat := by
  have := hW.home
  unfold jce at this
  split at this
  ·cases this
  ·omega
 have h6 := h1.driven
 rw [hW.D]
 omega
end Go.Proofs.YtgcokllbophkkaaGreat
namespace Go.Proofs.YtgcokllbophkkaaGreat
open Go Go.W Go.RowKit
theorem ji0 (t c : Int) (w0 : World) (ht : -1000000000000000000 ≤ t ∧ t ≤ 1000000000000000000) (hc : 1 ≤ c ∧ c ≤ 1000000) :
  Calls Tryz.prog 68 #[I t, I c] w0 fun e w' => e = .returned (I (jcn t c)) ∧ Below w0.heap.size w0 w' := by
 have H := SH.refl w0
 refine Calls.ofWP Tryz.func68 rfl Tryz.results68 Tryz.ntmps68 rfl<|Y.qr<|Y.bz rfl<|Y.qq<|Y.a rfl<|Y.v (Ev.leq rfl rfl)<|Y.z ?_
 refine WP.cond rfl (fun hc1 => ?_) (fun hc1 => ?_)
 ·refine Y.qr<|Y.bz rfl ?_
  refine WP.ret ⟨_, rfl, ?_⟩
  exact ⟨by rw [jcn, if_pos (by simpa using hc1)]; rfl, H.below⟩
 have ht1 : 0 < t := by simp at hc1; omega
 refine Y.k<|Y.qr<|Y.a rfl<|Y.a rfl<|Y.P rfl<|Y.Q rfl<|Y.a rfl<|Y.v (Ev.quo rfl rfl (by omega) (by omega) (by omega))<|Y.bz rfl ?_
 refine WP.ret ⟨_, rfl, ?_⟩
 exact ⟨by rw [jcn, if_neg (by omega)]; rfl, H.below⟩
end Go.Proofs.YtgcokllbophkkaaGreat
namespace Go.Proofs.YtgcokllbophkkaaGreat
open Go Go.W Go.RowKit
def jen (ns : List z6) (b : Bool) : List z6 := if b = true then jaC ns else jaD ns
theorem ji9 {ns : List z6} {b : Bool} {j : Nat} (h : j < ns.length) : jen (ns.take (j + 1)) b = jen (ns.take j) b ++ if decide (0 < ns[j].move) = b then [ns[j]] else [] := by
 unfold jen jaC jaD
 cases b <;> simp only [if_true, Bool.false_eq_true, if_false]
 ·rw [jcw h]; cases decide (0 < ns[j].move) <;> simp
 ·rw [jcw h]
theorem jjl {ns : List z6} {b : Bool} {j : Nat} : (jen (ns.take j) b).length ≤ ns.length := by
 unfold jen jaC jaD; split <;> exact jd5
theorem jkm (n hd : Int) (A B C : Option Addr) (ll tl : Nat) (ns : List z6) (b : Bool) (ca cb cc : Nat) (w0 : World) (hn : k8 2 j8 w0 C ns) (hnl : ns.length ≤ 1000) :
  Calls Tryz.prog 67 #[.agg #[I n, .slice A ll ca, .slice B tl cb, .slice C ns.length cc, I hd], .bool b] w0 fun e w' => ∃ (S : Option Addr) (k : Nat) (L : List Blk), e = .returned (.slice S (jen ns b).length k) ∧ OwnS S k (jen ns b).length ((jen ns b).flatMap j8) 68 2 L ∧ SH w0 [] w' L := by
 have H := SH.refl w0
 refine Calls.ofWP Tryz.func67 rfl Tryz.results67 Tryz.ntmps67 rfl<|Y.qr<|Y.bx (cA rfl) H ?_
 clear H; intro g2 w H
 refine Y.aS rfl<|Y.z<|Y.qr<|Y.aS rfl<|Y.z<|Y.qq<|Y.bz rfl<|WP.block ?_
 refine WP.loop [5, 6, 7, 8, 9, 10, 11, 12, 13, 14, 15, 16, 17, 18, 19, 20, 21, 22, 23, 24, 25, 26, 27, 28, 29, 30] (fun k e w' => ∃ (j : Nat) (S : Option Addr) (kc : Nat) (Lc : List Blk), j + k = ns.length ∧ e 6 = I j ∧ e 5 = .slice S (jen (ns.take j) b).length kc ∧ OwnS S kc (jen (ns.take j) b).length ((jen (ns.take j) b).flatMap j8) 68 2 Lc ∧ SH w0 [] w' ([⟨g2, 28, [I n, .slice A ll ca, .slice B tl cb, .slice C ns.length cc, I hd]⟩] ++ Lc)) (ns.length) (⟨0, none, 0, [], by omega, rfl, (by cases b <;> rfl), (by cases b <;> exact OwnS.nil), H⟩) ?_
 clear H
 rintro k u w ⟨j, S, kc, Lc, hk, h6, h5, hO, H⟩
 refine WP.know (t := 6) h6 (WP.know (t := 5) h5 ?_)
 refine Y.qq<|Y.a rfl<|Y.W H 0 rfl<|Y.E rfl<|Y.lt rfl<|Y.z ?_
 refine WP.cond rfl (fun hc3 => ?_) (fun hc3 => ?_)
 ·have hlt : j < ns.length := by simpa using hc3
  obtain ⟨bn, o, rfl, hc⟩ := hn j hlt
  have hci : w0.cell? ⟨bn, o + j * 2 + 1, none⟩ = some (I ns[j].move) := hc.2.1
  have hc' := k7 H hc
  have hsl := jjl (ns := ns) (b := b) (j := j)
  have hst := ji9 (b := b) hlt
  refine Y.k<|Y.q<|WP.block<|Y.qr<|Y.W H 0 rfl<|Y.a rfl<|Y.U rfl<|Y.F rfl<|Y.v (Y.c (H.ld0 (by assumption)) rfl) ?_
  refine Y.v (Ev.gtr rfl rfl)<|Y.B rfl<|Y.v (Ev.eqlB Tryz.runUnderlying4 rfl rfl)<|Y.z ?_
  refine WP.cond rfl (fun hc5 => ?_) (fun hc5 => ?_)
  ·have hb : decide (0 < ns[j].move) = b := by simpa using hc5
   rw [if_pos hb] at hst
   have hl : (jen (ns.take (j + 1)) b).length = (jen (ns.take j) b).length + 1 := by rw [hst]; simp
   refine Y.r<|Y.sS rfl<|Y.W H 0 rfl<|Y.a rfl<|Y.U rfl<|Y.v (Ev.loadN (j8 ns[j]) (j6 rfl) (j4 rfl) rfl hc')<|OPS.buildSlice rfl rfl rfl rfl (ja4 rfl) H ?_
   clear H; intro g29 w H
   refine OPS.append (m := 1) (news := j8 ns[j]) (R := [⟨g29, 68, [I ns[j].node, I ns[j].move]⟩, ⟨g2, 28, [I n, .slice A ll ca, .slice B tl cb, .slice (some ⟨bn, o, none⟩) ns.length cc, I hd]⟩]) rfl rfl rfl rfl rfl (z8 rfl) rfl rfl hO rfl (y0 H 0 rfl) rfl (by omega) (by unfold maxLen; omega) H (by exact jbf fun f => by simp <;> omega) ?_
   clear H hO; intro S kc Lc w hO H
   refine Y.aS rfl<|Y.z<|Y.r<|Y.a rfl<|Y.P rfl<|Y.bz rfl ?_
   exact ⟨Y.ag, k - 1, by omega, j + 1, S, kc, Lc, by omega, rfl, by rw [hl]; rfl, (by rw [hl, hst, List.flatMap_append, List.flatMap_cons, List.flatMap_nil, List.append_nil]; exact hO), H.drop Y.sc⟩
  have hb : ¬ decide (0 < ns[j].move) = b := by simpa using hc5
  rw [if_neg hb, List.append_nil] at hst
  refine Y.k<|Y.r<|Y.a rfl<|Y.P rfl<|Y.bz rfl ?_
  exact ⟨Y.ag, k - 1, by omega, j + 1, S, kc, Lc, by omega, rfl, by rw [hst]; rfl, by rw [hst]; exact hO, H⟩
 refine WP.exit<|XB.hit<|Y.qr<|Y.sS rfl<|Y.aS rfl<|Y.z ?_
 refine WP.ret ⟨_, rfl, ?_⟩
 have hj : j = ns.length := by simp at hc3; omega
 subst hj
 rw [List.take_length] at hO ⊢
 exact ⟨S, kc, Lc, rfl, hO, H.drop Y.sr⟩
end Go.Proofs.YtgcokllbophkkaaGreat
namespace Go.Proofs.YtgcokllbophkkaaGreat
open Go Go.W Go.RowKit
def jmL (x : z6) : Int := if x.move < -x.move then -x.move else x.move
theorem jie (A : Option Addr) (l : List z6) (cap : Nat) (w0 : World) (hz : k8 2 j8 w0 A l) (hl : l.length ≤ 1000) (hb : ∀ x ∈ l, -32 ≤ x.move ∧ x.move ≤ 32) :
  Calls Tryz.prog 70 #[.slice A l.length cap] w0 fun e w' => e = .returned (I (l.map jmL).sum) ∧ Below w0.heap.size w0 w' := by
 have H := SH.refl w0
 refine Calls.ofWP Tryz.func70 rfl Tryz.results70 Tryz.ntmps70 rfl<|Y.qr<|Y.bz rfl<|Y.qr<|Y.bz rfl<|Y.qq<|Y.bz rfl<|WP.block<|WP.loop [3, 4, 5, 6, 7, 8, 9, 10, 11, 12, 13, 14, 15, 16, 17, 18, 19, 20, 21, 22, 23, 24] (fun k e w' => ∃ (j : Nat) (s : Int), j + k = l.length ∧ e 4 = I j ∧ e 3 = I s ∧ s = ((l.take j).map jmL).sum ∧ (0 ≤ s ∧ s ≤ 32 * (j : Int)) ∧ SH w0 [] w' []) (l.length) (⟨0, 0, by omega, rfl, rfl, rfl, by omega, H⟩) ?_
 clear H
 rintro k u w ⟨j, s, hk, h4, h3, hs, hsb, H⟩
 refine WP.know (t := 4) h4 (WP.know (t := 3) h3 ?_)
 refine Y.qq<|Y.a rfl<|Y.sS rfl<|Y.E rfl<|Y.lt rfl<|Y.z ?_
 refine WP.cond rfl (fun hc3 => ?_) (fun hc3 => ?_)
 ·have hlt : j < l.length := by simpa using hc3
  obtain ⟨b, o, rfl, hc⟩ := hz j hlt
  have hci : w0.cell? ⟨b, o + j * 2 + 1, none⟩ = some (I l[j].move) := hc.2.1
  have hxb := hb l[j] (List.getElem_mem hlt)
  have hst : ((l.take (j + 1)).map jmL).sum = s + jmL l[j] := by rw [List.take_succ_eq_append_getElem hlt, List.map_append, List.sum_append, ← hs]; simp
  unfold jmL at hst
  refine Y.k<|Y.q<|WP.block<|WP.rstill mixed (by kernel_rfl) H ?_
  clear H; intro w hbw5 H
  refine Y.a rfl<|Y.sS rfl<|Y.a rfl<|Y.U rfl<|Y.F rfl<|Y.v (Y.c (H.ld0 (by assumption)) rfl) ?_
  refine Y.sS rfl<|Y.a rfl<|Y.U rfl<|Y.F rfl<|Y.v (Y.c (H.ld0 (by assumption)) rfl) ?_
  refine Y.v (Ev.neg rfl (by unfold fits; omega))<|Y.v (Ev.max rfl rfl)<|Y.P rfl<|Y.b rfl<|OPS.nil_s<|Y.r<|Y.a rfl<|Y.P rfl<|Y.bz rfl ?_
  refine ⟨Y.ag, k - 1, by omega, j + 1, _, by omega, rfl, rfl, hst.symm, ?_, H⟩
  split <;> omega
 refine WP.exit<|XB.hit<|Y.qr<|Y.a rfl<|Y.bz rfl ?_
 refine WP.ret ⟨_, rfl, ?_⟩
 have hj : j = l.length := by simp at hc3; omega
 subst hj
 rw [List.take_length] at hs
 exact ⟨by rw [hs]; rfl, H.below⟩
theorem sum_col {ns : List z6} : ((jaC ns).map jmL).sum = (jbg ns).sum := by
 unfold jbg
 congr 1
 refine List.map_congr_left fun x hx => ?_
 have := (List.mem_filter.1 hx).2
 simp at this
 unfold jmL; split <;> omega
theorem jhy {ns : List z6} : ((jaD ns).map jmL).sum = (jao ns).sum := by
 unfold jao
 congr 1
 refine List.map_congr_left fun x hx => ?_
 have := (List.mem_filter.1 hx).2
 simp at this
 unfold jmL; split <;> omega
theorem jhg (n hd : Int) (A B C : Option Addr) (ll nl : Nat) (ts : List q9) (ca cb cc : Nat) (w0 : World) (ht : k8 4 k5 w0 B ts) (htl : ts.length ≤ 1000) (hb : ∀ t ∈ ts, 0 ≤ t.cap ∧ t.cap ≤ 32) :
  Calls Tryz.prog 69 #[.agg #[I n, .slice A ll ca, .slice B ts.length cb, .slice C nl cc, I hd]] w0 fun e w' => e = .returned (I (jbx ts)) ∧ Below w0.heap.size w0 w' := by
 have H := SH.refl w0
 refine Calls.ofWP Tryz.func69 rfl Tryz.results69 Tryz.ntmps69 rfl<|Y.qr<|Y.bx (cA rfl) H ?_
 clear H; intro g1 w H
 refine Y.bz rfl<|Y.qr<|Y.bz rfl<|Y.qq<|Y.bz rfl<|WP.block<|WP.loop [3, 4, 5, 6, 7, 8, 9, 10, 11, 12, 13, 14, 15, 16, 17, 18, 19] (fun k e w' => ∃ (j : Nat), j + k = ts.length ∧ e 4 = I j ∧ e 3 = I (jbx (ts.take j)) ∧ SH w0 [] w' [⟨g1, 28, [I n, .slice A ll ca, .slice B ts.length cb, .slice C nl cc, I hd]⟩]) (ts.length) (⟨0, by omega, rfl, rfl, H⟩) ?_
 clear H
 rintro k u w ⟨j, hk, h4, h3, H⟩
 refine WP.know (t := 4) h4 (WP.know (t := 3) h3 ?_)
 refine Y.qq<|Y.a rfl<|Y.W H 0 rfl<|Y.E rfl<|Y.lt rfl<|Y.z ?_
 refine WP.cond rfl (fun hc3 => ?_) (fun hc3 => ?_)
 ·have hlt : j < ts.length := by simpa using hc3
  obtain ⟨b, o, rfl, hc⟩ := ht j hlt
  have hci : w0.cell? ⟨b, o + j * 4 + 1, none⟩ = some (I ts[j].cap) := hc.2.1
  have hct := jd1 hlt
  refine Y.k<|Y.q<|WP.block<|Y.r<|Y.a rfl<|Y.W H 0 rfl<|Y.a rfl<|Y.U rfl<|Y.F rfl<|Y.v (Y.c (H.ld0 (by assumption)) rfl) ?_
  refine Y.v (Ev.max rfl rfl)<|Y.bz rfl<|Y.r<|Y.a rfl<|Y.P rfl<|Y.bz rfl ?_
  exact ⟨Y.ag, k - 1, by omega, j + 1, by omega, rfl, by rw [hct]; rfl, H⟩
 refine WP.exit<|XB.hit<|Y.qr<|Y.a rfl<|Y.bz rfl ?_
 refine WP.ret ⟨_, rfl, ?_⟩
 have hj : j = ts.length := by simp at hc3; omega
 subst hj
 rw [List.take_length]
 exact ⟨rfl, H.below⟩
end Go.Proofs.YtgcokllbophkkaaGreat
namespace Go.Proofs.YtgcokllbophkkaaGreat
open Go Go.W Go.RowKit
theorem jj0 (n hd : Int) (A B C : Option Addr) (ll tl : Nat) (ns : List z6) (ca cb cc : Nat) (w0 : World) (hn : k8 2 j8 w0 C ns) (hnl : ns.length ≤ 1000) :
  Calls Tryz.prog 67 #[.agg #[I n, .slice A ll ca, .slice B tl cb, .slice C ns.length cc, I hd], .bool true] w0 fun e w' => ∃ (S : Option Addr) (k : Nat) (L : List Blk), e = .returned (.slice S (jaC ns).length k) ∧ OwnS S k (jaC ns).length ((jaC ns).flatMap j8) 68 2 L ∧ SH w0 [] w' L := jkm n hd A B C ll tl ns true ca cb cc w0 hn hnl
theorem jir (n hd : Int) (A B C : Option Addr) (ll tl : Nat) (ns : List z6) (ca cb cc : Nat) (w0 : World) (hn : k8 2 j8 w0 C ns) (hnl : ns.length ≤ 1000) :
  Calls Tryz.prog 67 #[.agg #[I n, .slice A ll ca, .slice B tl cb, .slice C ns.length cc, I hd], .bool false] w0 fun e w' => ∃ (S : Option Addr) (k : Nat) (L : List Blk), e = .returned (.slice S (jaD ns).length k) ∧ OwnS S k (jaD ns).length ((jaD ns).flatMap j8) 68 2 L ∧ SH w0 [] w' L := jkm n hd A B C ll tl ns false ca cb cc w0 hn hnl
theorem OwnS.needs {S : Option Addr} {k : Nat} {l : List z6} {Lo R : List Blk} {w0 w : World} {X : List Nat} (h : OwnS S k l.length (l.flatMap j8) 68 2 Lo) (H : SH w0 X w (R ++ Lo)) : k8 2 j8 w S l := (h.rows (enc := j8) (fun _ => rfl) (by decide) H).1
def jfq (C D : List Int) (tm : List (List Int)) : List Flo.Arc := Flo.brArcs 1 (2 + C.length) D ++ Flo.colArcs (2 + C.length) 2 C tm
theorem jig (m : Nat) (l : List Edg) (ns : List z6) : (jct m l ns).length = (jaC ns).length := by simp [jct]
theorem jlN {m : Nat} {l : List Edg} {ns : List z6} {j : Nat} (h : j < (jct m l ns).length) : (jct m l ns)[j] = (jaD ns).map fun y => x9 m l ((jaC ns)[j]'(by rw [jig] at h; exact h)).node.toNat y.node.toNat := by simp [jct]
theorem nwR {a b c d : Blk} {LB Lo : List Blk} : (a :: (([b, c, d] : List Blk) ++ (LB ++ Lo))).Perm (([a, b, c, d] ++ LB) ++ Lo) := jbf fun f => by simp <;> omega
theorem nwT {b c d : Blk} {LB Lo LT : List Blk} : ((([b, c, d] : List Blk) ++ (LB ++ Lo)) ++ LT).Perm ([b, c, d] ++ ((LB ++ LT) ++ Lo)) := jbf fun f => by simp <;> omega
theorem nwS {b c d : Blk} {LB Lo LT : List Blk} : (([b, c, d] : List Blk) ++ (LB ++ Lo)).Sublist ([b, c, d] ++ ((LB ++ LT) ++ Lo)) := List.Sublist.append (List.Sublist.refl _) (List.Sublist.append Y.sl (List.Sublist.refl _))
theorem subA {L1 LB Lo : List Blk} : LB.Sublist (L1 ++ (LB ++ Lo)) := Y.sl.trans Y.sr
theorem subB {L1 LB LT Lo : List Blk} : LB.Sublist (L1 ++ ((LB ++ LT) ++ Lo)) := Y.sl.trans subA
set_option maxRecDepth 20000 in
theorem jeg (m : Nat) (hd : Int) (A B C : Option Addr) (l : List Edg) (ts : List q9) (ns : List z6) (ca cb cc : Nat) (w0 : World) (hN : jaE w0 A B C l ts ns cc) (hK : jbU m l ts ns hd) :
  Calls Tryz.prog 72 #[.agg #[I m, .slice A l.length ca, .slice B ts.length cb, .slice C ns.length cc, I hd]] w0 fun e w' => ∃ (A : Option Addr) (cap : Nat) (L : List Blk), e = .returned (.agg #[I ((jbg ns).length + (jao ns).length + 2 : Nat), .slice A (jfq (jbg ns) (jao ns) (jct m l ns)).length cap]) ∧ Reads L (fun w => Flo.ArcsAt w A (jfq (jbg ns) (jao ns) (jct m l ns))) ∧ SH w0 [] w' L := by
 have H := SH.refl w0
 have hnl := hK.nl
 have hl1 : (jaC ns).length ≤ ns.length := List.length_filter_le _ _
 have hl2 : (jaD ns).length ≤ ns.length := List.length_filter_le _ _
 have hCl : (jbg ns).length = (jaC ns).length := by simp [jbg]
 have hDl : (jao ns).length = (jaD ns).length := by simp [jao]
 have htl := jig m l ns
 have hX := jeI hK
 obtain ⟨N, hNe⟩ : ∃ N : Int, N = 2 + (jaC ns).length + (jaD ns).length := ⟨_, rfl⟩
 obtain ⟨CC, hCC⟩ : ∃ CC, CC = jbg ns := ⟨_, rfl⟩
 obtain ⟨DD, hDD⟩ : ∃ DD, DD = jao ns := ⟨_, rfl⟩
 obtain ⟨tm, htm⟩ : ∃ tm, tm = jct m l ns := ⟨_, rfl⟩
 obtain ⟨cs, hcs⟩ : ∃ cs, cs = jaC ns := ⟨_, rfl⟩
 obtain ⟨bs, hbs⟩ : ∃ bs, bs = jaD ns := ⟨_, rfl⟩
 have hcsl : cs.length = (jaC ns).length := by rw [hcs]
 have hbsl : bs.length = (jaD ns).length := by rw [hbs]
 have hCCl : CC.length = cs.length := by rw [hCC, hcs, hCl]
 have hDDl : DD.length = bs.length := by rw [hDD, hbs, hDl]
 have html : tm.length = cs.length := by rw [htm, hcs, htl]
 have hcm : ∀ x ∈ cs, (0 ≤ x.node ∧ x.node < m) ∧ -32 ≤ x.move ∧ x.move ≤ 32 := fun x hx => by
  rw [hcs] at hx
  have := hK.nd x (List.mem_filter.1 hx).1
  exact ⟨this.1, this.2.2⟩
 have hbm : ∀ x ∈ bs, (0 ≤ x.node ∧ x.node < m) ∧ -32 ≤ x.move ∧ x.move ≤ 32 := fun x hx => by
  rw [hbs] at hx
  have := hK.nd x (List.mem_filter.1 hx).1
  exact ⟨this.1, this.2.2⟩
 have hrows : ∀ j (h : j < tm.length) (h2 : j < cs.length), tm[j] = bs.map fun y => x9 m l cs[j].node.toNat y.node.toNat := fun j h h2 => by
  subst htm hcs hbs; exact jlN h
 have hrlen : ∀ r ∈ tm, r.length ≤ 16 := fun r hr => by
  obtain ⟨j, hj, rfl⟩ := List.mem_iff_getElem.1 hr
  rw [hrows j hj (by rw [hcs, ← htl, ← htm]; exact hj)]; simp; rw [hbs]; omega
 refine Calls.ofWPc Tryz.func72 rfl Tryz.results72 Tryz.ntmps72 rfl<|Y.qr<|Y.bx (cA rfl) H ?_
 clear H; intro g1 w H
 refine Y.al H rfl rfl ?_
 clear H; intro g2 w H
 refine Y.z<|Y.q ?_
 refine WP.rheldC [3, 4, 12, 13, 14, 15] (fun u w' => ∃ (Sc Sb : Option Addr) (kc kb : Nat) (Lc Lb : List Blk), u 3 = .slice Sc cs.length kc ∧ u 4 = .slice Sb bs.length kb ∧ OwnS Sc kc cs.length (cs.flatMap j8) 68 2 Lc ∧ OwnS Sb kb bs.length (bs.flatMap j8) 68 2 Lb ∧ SH w0 [] w' ([⟨g2, 123, [I 0, .slice none 0 0]⟩, ⟨g1, 28, [I m, .slice A l.length ca, .slice B ts.length cb, .slice C ns.length cc, I hd]⟩] ++ (Lc ++ Lb))) mixed H ?_ ?_
 ·clear H; intro w hbw1 H
  refine Y.t 0 H rfl rfl (fun w H => Y.o H 1 rfl rfl)<|Y.t 2 H rfl rfl (fun w H => Y.o H 1 rfl rfl)<|Y.A1 1 rfl rfl<|Y.c2 13 rfl (by have h := jj0 m hd A B C l.length ts.length ns ca cb cc _ (hN.n.sh H) (by omega); rw [← hcs] at h; exact h) ?_
  rintro _ w ⟨Sc, kc, Lc, rfl, hOc, Hc⟩
  refine ⟨_, rfl, ?_⟩
  have Hf := SH.call (Lv := []) (by rw [List.append_nil]; exact H) Hc
  clear H Hc
  have H := Hf.drop Y.sl
  refine Y.z <| ⟨(H), ?_⟩
  refine Y.A1 3 rfl rfl<|Y.c2 15 rfl (by have h := jir m hd A B C l.length ts.length ns ca cb cc _ (hN.n.sh H) (by omega); rw [← hbs] at h; exact h) ?_
  rintro _ w ⟨Sb, kb, Lb, rfl, hOb, Hc⟩
  refine ⟨_, rfl, ?_⟩
  replace Hf := SH.call (Lv := []) (by rw [List.append_nil]; exact Hf) Hc
  clear H Hc
  rw [List.append_assoc] at Hf
  have H := Hf.drop Y.sl
  refine Y.z <| ⟨(H), ?_⟩
  refine Y.t 4 H rfl rfl (fun w H => Ev.asS rfl)<|Y.t 5 H rfl rfl (fun w H => Ev.asS rfl)<|Y.dn ?_
  exact ⟨Y.ag, Sc, Sb, kc, kb, Lc, Lb, rfl, rfl, hOc, hOb, Hf⟩
 clear H
 rintro u w ⟨Sc, Sb, kc, kb, Lc, Lb, h3, h4, hOc, hOb, H⟩
 refine WP.know (t := 3) h3 (WP.know (t := 4) h4 ?_)
 obtain ⟨LB, hLB⟩ : ∃ LB, LB = Lc ++ Lb := ⟨_, rfl⟩
 have hrC : Reads LB fun w => k8 2 j8 w Sc cs := fun w0 S w H => OwnS.needs (R := Lb) hOc (H.perm (by rw [hLB]; exact List.perm_append_comm))
 have hrB : Reads LB fun w => k8 2 j8 w Sb bs := fun w0 S w H => OwnS.needs (R := Lc) hOb (by rw [← hLB]; exact H)
 rw [← hLB] at H
 clear hOc hOb
 refine Y.qr<|Y.sS rfl<|Y.E rfl<|Y.P rfl<|Y.sS rfl<|Y.E rfl<|Y.P rfl<|Y.v (Ev.build (jgq rfl))<|Y.al H rfl rfl ?_
 clear H; intro g5 w H
 refine Y.ss 0 H rfl (cA rfl) rfl ?_
 clear H; intro w H
 refine Y.z ?_
 have hNe2 : N = 2 + (cs.length : Int) + bs.length := by rw [hNe, hcs, hbs]
 rw [← hNe2] at H
 replace H : SH w0 [] w ([⟨g5, 123, jgl N none 0 0⟩, ⟨g2, 123, [I 0, .slice none 0 0]⟩, ⟨g1, 28, [I m, .slice A l.length ca, .slice B ts.length cb, .slice C ns.length cc, I hd]⟩] ++ (LB ++ [])) := by rw [List.append_nil]; exact H
 refine Y.qq<|Y.bz rfl<|WP.block<|WP.loop [6, 23, 24, 25, 26, 27, 28, 29, 30, 31, 32, 33, 34, 35, 36, 37, 38, 39, 40, 41, 42, 43, 44, 45] (fun k e w' => ∃ (j : Nat) (A1 : Option Addr) (c1 : Nat) (Lo : List Blk), j + k = bs.length ∧ e 6 = I j ∧ OwnS A1 c1 (Flo.brArcs 1 (2 + cs.length) (DD.take j)).length ((Flo.brArcs 1 (2 + cs.length) (DD.take j)).flatMap Flo.arcCells) 151 4 Lo ∧ SH w0 [] w' ([⟨g5, 123, jgl N A1 (Flo.brArcs 1 (2 + cs.length) (DD.take j)).length c1⟩, ⟨g2, 123, [I 0, .slice none 0 0]⟩, ⟨g1, 28, [I m, .slice A l.length ca, .slice B ts.length cb, .slice C ns.length cc, I hd]⟩] ++ (LB ++ Lo))) (bs.length) (⟨0, none, 0, [], by omega, rfl, (by rw [List.take_zero]; exact OwnS.nil), (by rw [List.take_zero]; exact H)⟩) ?_
 clear H
 rintro k u w ⟨j, A1, c1, Lo, hk, h6, hO, H⟩
 refine WP.know (t := 6) h6 ?_
 have hbl2 := Flo.br_len 1 (DD.take j) (2 + cs.length)
 have hbl3 : (DD.take j).length ≤ DD.length := List.length_take_le' _ _
 obtain ⟨l1, hl1⟩ : ∃ l1, l1 = Flo.brArcs 1 (2 + cs.length) (DD.take j) := ⟨_, rfl⟩
 have hl1n : l1.length ≤ 16 := by rw [hl1]; omega
 rw [← hl1] at hO H
 unfold jgl at H
 refine Y.qq<|Y.a rfl<|Y.sS rfl<|Y.E rfl<|Y.lt rfl<|Y.z ?_
 refine Y.i rfl (fun hc4 => ?_) fun hc4 => ?_
 ·have hlt : j < bs.length := by simpa using hc4
  have hbt := Flo.br_take (last := 1) (g := 2 + cs.length) (D := DD) (k := j) (by omega)
  have eD : DD[j]'(by omega) = -bs[j].move := by simp [hDD, jao, hbs]
  rw [eD, ← hl1] at hbt
  have hmx := hbm bs[j] (List.getElem_mem hlt)
  refine Y.k<|Y.q<|WP.block ?_
  have E := H
  replace H := H.drop (L' := [⟨g2, 123, [I 0, .slice none 0 0]⟩, ⟨g1, 28, [I m, .slice A l.length ca, .slice B ts.length cb, .slice C ns.length cc, I hd]⟩] ++ LB) (List.Sublist.cons _ (List.Sublist.append (List.Sublist.refl [_, _]) Y.sl))
  obtain ⟨b, o, rfl, _⟩ := hrB.at H Y.sr j hlt
  have hcw : ∀ w, SH w0 [] w ([⟨g2, 123, [I 0, .slice none 0 0]⟩, ⟨g1, 28, [I m, .slice A l.length ca, .slice B ts.length cb, .slice C ns.length cc, I hd]⟩] ++ LB) → w.cell? ⟨b, o + j * 2 + 1, none⟩ = some (I bs[j].move) := fun w H => by
   obtain ⟨_, _, e, hc⟩ := hrB.at H Y.sr j hlt
   cases e; exact hc.2.1
  refine WP.rheldC [29, 30, 31, 32, 33, 34, 35, 36, 37, 38, 39, 40, 41, 42, 43, 44, 45] (fun _ w' => ∃ (A1 : Option Addr) (c1 : Nat) (Lo : List Blk), OwnS A1 c1 (l1.length + 1) ((l1 ++ [(⟨2 + cs.length + j, 1, -bs[j].move, 0⟩ : Flo.Arc)]).flatMap Flo.arcCells) 151 4 Lo ∧ SH w0 [] w' ([⟨g5, 123, jgl N A1 (l1.length + 1) c1⟩, ⟨g2, 123, [I 0, .slice none 0 0]⟩, ⟨g1, 28, [I m, .slice A l.length ca, .slice B ts.length cb, .slice C ns.length cc, I hd]⟩] ++ (LB ++ Lo))) mixed H ?_ ?_
  ·clear H; intro w hbw6 H
   refine Y.tf 0 H rfl<|Y.t 2 H rfl rfl (fun w H => Ev.mvS rfl)<|Y.t 3 H rfl rfl (fun w H => Y.n rfl)<|Y.t 4 H rfl rfl (fun w H => Y.p rfl rfl)<|Y.t 5 H rfl rfl (fun w H => Y.m rfl)<|Y.t 6 H rfl rfl (fun w H => Y.p rfl rfl)<|Y.t 7 H rfl rfl (fun w H => Ev.mvS rfl)<|Y.t 8 H rfl rfl (fun w H => Y.m rfl)<|Y.t 9 H rfl rfl (fun w H => Y.X rfl rfl rfl rfl rfl)<|Y.tf 10 H rfl<|Y.t 11 H rfl rfl (fun w H => Y.c (hcw w H) rfl)<|Y.t 12 H rfl rfl (fun w H => Ev.neg rfl (by unfold fits; omega))<|Y.t 13 H rfl rfl (fun w H => Ev.build (jdS rfl rfl rfl)) ?_
   refine Y.A2 1 14 rfl rfl rfl ?_ ?_
   ·try replace E := E.toBelow hbw6
    refine Y.J E 0 rfl<|Y.z <| ⟨(H), ?_⟩
    refine Y.A1 14 rfl rfl ?_
    try replace E := E.toBelow hbw6
    refine OPS.buildSlice rfl rfl rfl rfl (jbV rfl) E ?_
    clear H E; intro g43 w E
    have H := E.drop (L' := [⟨g2, 123, [I 0, .slice none 0 0]⟩, ⟨g1, 28, [I m, .slice A l.length ca, .slice B ts.length cb, .slice C ns.length cc, I hd]⟩] ++ LB) (List.Sublist.cons _ (List.Sublist.cons _ (List.Sublist.append (List.Sublist.refl [_, _]) Y.sl)))
    refine Y.z <| ⟨(H), ?_⟩
    refine Y.A1 15 rfl rfl<|OPS.append (m := 1) (news := [I (2 + cs.length + j), I 1, I (-bs[j].move), I 0]) (R := [⟨g43, 151, [I (2 + cs.length + j), I 1, I (-bs[j].move), I 0]⟩, ⟨g5, 123, [I N, .slice A1 l1.length c1]⟩, ⟨g2, 123, [I 0, .slice none 0 0]⟩, ⟨g1, 28, [I m, .slice A l.length ca, .slice B ts.length cb, .slice C ns.length cc, I hd]⟩] ++ LB) rfl rfl rfl rfl rfl (z8 rfl) rfl rfl hO rfl (y0 E 0 rfl) rfl (by omega) (by unfold maxLen; omega) E nwR ?_
    clear H E hO; intro A2 c2 Lo2 w hO E
    simp only [List.cons_append, List.nil_append, List.append_assoc] at E
    have H := E.drop (L' := [⟨g2, 123, [I 0, .slice none 0 0]⟩, ⟨g1, 28, [I m, .slice A l.length ca, .slice B ts.length cb, .slice C ns.length cc, I hd]⟩] ++ LB) (List.Sublist.cons _ (List.Sublist.cons _ (List.Sublist.append (List.Sublist.refl [_, _]) Y.sl)))
    refine Y.z <| ⟨(H), ?_⟩
    refine Y.tf 16 H rfl<|Y.A1 17 rfl rfl<|Y.st 1 E rfl (cS rfl) rfl ?_
    clear H E; intro w E
    have H := E.drop (L' := [⟨g2, 123, [I 0, .slice none 0 0]⟩, ⟨g1, 28, [I m, .slice A l.length ca, .slice B ts.length cb, .slice C ns.length cc, I hd]⟩] ++ LB) (List.Sublist.cons _ (List.Sublist.cons _ (List.Sublist.append (List.Sublist.refl [_, _]) Y.sl)))
    refine Y.z <| ⟨(H), ?_⟩
    refine Y.dn ?_
    exact ⟨Y.ag, _, _, _, (by rw [List.flatMap_append]; simpa [Flo.arcCells] using hO), E.drop Y.sc⟩
   ·try replace E := E.toBelow hbw6
    refine OPS.buildSlice rfl rfl rfl rfl (jbV rfl) E ?_
    clear H E; intro g43 w E
    have H := E.drop (L' := [⟨g2, 123, [I 0, .slice none 0 0]⟩, ⟨g1, 28, [I m, .slice A l.length ca, .slice B ts.length cb, .slice C ns.length cc, I hd]⟩] ++ LB) (List.Sublist.cons _ (List.Sublist.cons _ (List.Sublist.append (List.Sublist.refl [_, _]) Y.sl)))
    refine Y.z <| ⟨(H), ?_⟩
    refine Y.A1 1 rfl rfl ?_
    try replace E := E.toBelow hbw6
    refine Y.J E 1 rfl<|Y.z <| ⟨(H), ?_⟩
    refine Y.A1 15 rfl rfl<|OPS.append (m := 1) (news := [I (2 + cs.length + j), I 1, I (-bs[j].move), I 0]) (R := [⟨g43, 151, [I (2 + cs.length + j), I 1, I (-bs[j].move), I 0]⟩, ⟨g5, 123, [I N, .slice A1 l1.length c1]⟩, ⟨g2, 123, [I 0, .slice none 0 0]⟩, ⟨g1, 28, [I m, .slice A l.length ca, .slice B ts.length cb, .slice C ns.length cc, I hd]⟩] ++ LB) rfl rfl rfl rfl rfl (z8 rfl) rfl rfl hO rfl (y0 E 0 rfl) rfl (by omega) (by unfold maxLen; omega) E nwR ?_
    clear H E hO; intro A2 c2 Lo2 w hO E
    simp only [List.cons_append, List.nil_append, List.append_assoc] at E
    have H := E.drop (L' := [⟨g2, 123, [I 0, .slice none 0 0]⟩, ⟨g1, 28, [I m, .slice A l.length ca, .slice B ts.length cb, .slice C ns.length cc, I hd]⟩] ++ LB) (List.Sublist.cons _ (List.Sublist.cons _ (List.Sublist.append (List.Sublist.refl [_, _]) Y.sl)))
    refine Y.z <| ⟨(H), ?_⟩
    refine Y.tf 16 H rfl<|Y.A1 17 rfl rfl<|Y.st 1 E rfl (cS rfl) rfl ?_
    clear H E; intro w E
    have H := E.drop (L' := [⟨g2, 123, [I 0, .slice none 0 0]⟩, ⟨g1, 28, [I m, .slice A l.length ca, .slice B ts.length cb, .slice C ns.length cc, I hd]⟩] ++ LB) (List.Sublist.cons _ (List.Sublist.cons _ (List.Sublist.append (List.Sublist.refl [_, _]) Y.sl)))
    refine Y.z <| ⟨(H), ?_⟩
    refine Y.dn ?_
    exact ⟨Y.ag, _, _, _, (by rw [List.flatMap_append]; simpa [Flo.arcCells] using hO), E.drop Y.sc⟩
  clear H
  rintro u w ⟨A2, c2, Lo2, hO, H⟩
  refine Y.r<|Y.a rfl<|Y.P rfl<|Y.bz rfl ?_
  have hl2 : (Flo.brArcs 1 (2 + cs.length) (DD.take (j + 1))).length = l1.length + 1 := by rw [hbt]; simp
  exact ⟨Y.ag, k - 1, by omega, j + 1, A2, c2, Lo2, by omega, rfl, (by rw [hl2, hbt]; exact hO), (by rw [hl2]; exact H)⟩
 have hj : j = bs.length := by simp at hc4; omega
 subst hj
 rw [List.take_of_length_le (show DD.length ≤ bs.length by omega)] at hl1
 refine WP.exit<|XB.hit<|Y.qq<|Y.bz rfl<|WP.block<|WP.loop [7, 8, 9, 10, 11, 46, 47, 48, 49, 50, 51, 52, 53, 54, 55, 56, 57, 58, 59, 60, 61, 62, 63, 64, 65, 66, 67, 68, 69, 70, 71, 72, 73, 74, 75, 76, 77, 78, 79, 80, 81, 82, 83, 84, 85, 86, 87, 88, 89, 90, 91, 92, 93, 94, 95, 96, 97, 98, 99, 100, 101, 102, 103, 104, 105] (fun k e w' => ∃ (j : Nat) (A1 : Option Addr) (c1 : Nat) (Lo : List Blk), j + k = cs.length ∧ e 7 = I j ∧ OwnS A1 c1 (l1 ++ Flo.colArcs (2 + cs.length) 2 (CC.take j) (tm.take j)).length ((l1 ++ Flo.colArcs (2 + cs.length) 2 (CC.take j) (tm.take j)).flatMap Flo.arcCells) 151 4 Lo ∧ SH w0 [] w' ([⟨g5, 123, jgl N A1 (l1 ++ Flo.colArcs (2 + cs.length) 2 (CC.take j) (tm.take j)).length c1⟩, ⟨g2, 123, [I 0, .slice none 0 0]⟩, ⟨g1, 28, [I m, .slice A l.length ca, .slice B ts.length cb, .slice C ns.length cc, I hd]⟩] ++ (LB ++ Lo))) (cs.length) (⟨0, A1, c1, Lo, by omega, rfl, (by rw [List.take_zero]; simpa [Flo.colArcs] using hO), (by rw [List.take_zero]; simpa [Flo.colArcs, jgl] using H)⟩) ?_
 clear H hO
 rintro k u w ⟨j, A2, c2, Lo2, hk, h7, hO, H⟩
 refine WP.know (t := 7) h7 ?_
 have hclen : (Flo.colArcs (2 + cs.length) 2 (CC.take j) (tm.take j)).length ≤ 272 := by
  have h1 := Flo.col_len (K := 16) (2 + cs.length) (CC.take j) (tm.take j) 2 (fun r hr => hrlen r (List.mem_of_mem_take hr))
  have h2 : (CC.take j).length ≤ CC.length := List.length_take_le' _ _
  omega
 obtain ⟨l0, hl0⟩ : ∃ l0, l0 = l1 ++ Flo.colArcs (2 + cs.length) 2 (CC.take j) (tm.take j) := ⟨_, rfl⟩
 have hl0n : l0.length ≤ 288 := by rw [hl0, List.length_append]; omega
 rw [← hl0] at hO H
 unfold jgl at H
 refine Y.qq<|Y.a rfl<|Y.sS rfl<|Y.E rfl<|Y.lt rfl<|Y.z ?_
 refine Y.i rfl (fun hc8 => ?_) fun hc8 => ?_
 ·have hlt : j < cs.length := by simpa using hc8
  have hct := Flo.col_take (g := 2 + cs.length) (i := 2) (C := CC) (tm := tm) (j := j) (by omega) (by omega)
  have eC : CC[j]'(by omega) = cs[j].move := by simp [hCC, jbg, hcs]
  rw [eC, hrows j (by omega) hlt] at hct
  have hmx := hcm cs[j] (List.getElem_mem hlt)
  obtain ⟨nx, hnx⟩ : ∃ nx, nx = cs[j] := ⟨_, rfl⟩
  rw [← hnx] at hct hmx
  obtain ⟨v, hv⟩ := Int.eq_ofNat_of_zero_le hmx.1.1
  have hvm : v < m := by omega
  have hvt : nx.node.toNat = v := by omega
  rw [hvt] at hct
  obtain ⟨rl, hrl⟩ : ∃ rl, rl = bs.map fun y => x9 m l v y.node.toNat := ⟨_, rfl⟩
  have hrll : rl.length = bs.length := by rw [hrl]; simp
  rw [← hrl] at hct
  refine Y.k<|Y.q<|WP.block<|Y.q ?_
  have E := H
  replace H := H.drop (L' := [⟨g2, 123, [I 0, .slice none 0 0]⟩, ⟨g1, 28, [I m, .slice A l.length ca, .slice B ts.length cb, .slice C ns.length cc, I hd]⟩] ++ LB) (List.Sublist.cons _ (List.Sublist.append (List.Sublist.refl [_, _]) Y.sl))
  obtain ⟨b, o, rfl, _⟩ := hrC.at H Y.sr j hlt
  have hcw : ∀ w L, SH w0 [] w L → LB.Sublist L → w.cell? ⟨b, o + j * 2, none⟩ = some (I v) ∧ w.cell? ⟨b, o + j * 2 + 1, none⟩ = some (I nx.move) := fun w L H hs => by
   obtain ⟨_, _, e, hc⟩ := hrC.at H hs j hlt
   cases e; rw [← hnx] at hc; rw [← hv]; exact ⟨hc.1, hc.2.1⟩
  refine WP.rheldC [52, 53, 54, 55, 56, 57, 58, 59, 60, 61, 62, 63, 64] (fun _ w' => ∃ (A1 : Option Addr) (c1 : Nat) (Lo : List Blk), OwnS A1 c1 (l0.length + 1) ((l0 ++ [(⟨0, 2 + j, nx.move, 0⟩ : Flo.Arc)]).flatMap Flo.arcCells) 151 4 Lo ∧ SH w0 [] w' ([⟨g5, 123, jgl N A1 (l0.length + 1) c1⟩, ⟨g2, 123, [I 0, .slice none 0 0]⟩, ⟨g1, 28, [I m, .slice A l.length ca, .slice B ts.length cb, .slice C ns.length cc, I hd]⟩] ++ (LB ++ Lo))) mixed H ?_ ?_
  ·clear H; intro w hbw10 H
   refine OPH.take 0 rfl rfl rfl rfl (by kernel_rfl) (by kernel_rfl) (by kernel_rfl) rfl (by exact H) (fun w H => Ev.fieldAddr (jaf rfl) rfl) ?_
   refine OPH.take 2 rfl rfl rfl rfl (by kernel_rfl) (by kernel_rfl) (by kernel_rfl) rfl (by exact H) (fun w H => Ev.mvI rfl) ?_
   refine OPH.take 3 rfl rfl rfl rfl (by kernel_rfl) (by kernel_rfl) (by kernel_rfl) rfl (by exact H) (fun w H => Ev.add rfl rfl (by unfold fits; omega)) ?_
   refine OPH.take 4 rfl rfl rfl rfl (by kernel_rfl) (by kernel_rfl) (by kernel_rfl) rfl (by exact H) (fun w H => Ev.mvS rfl) ?_
   refine OPH.take 5 rfl rfl rfl rfl (by kernel_rfl) (by kernel_rfl) (by kernel_rfl) rfl (by exact H) (fun w H => Ev.mvI rfl) ?_
   refine OPH.take 6 rfl rfl rfl rfl (by kernel_rfl) (by kernel_rfl) (by kernel_rfl) rfl (by exact H) (fun w H => (by exact Ev.indexAddr (x7 rfl) (j4 rfl) rfl rfl rfl (by omega))) ?_
   refine OPH.take 7 rfl rfl rfl rfl (by kernel_rfl) (by kernel_rfl) (by kernel_rfl) rfl (by exact H) (fun w H => Ev.fieldAddr (jaf rfl) rfl) ?_
   refine OPH.take 8 rfl rfl rfl rfl (by kernel_rfl) (by kernel_rfl) (by kernel_rfl) rfl (by exact H) (fun w H => Ev.load1 (j6 rfl) rfl (hcw w _ H Y.sr).2) ?_
   refine OPH.take 9 rfl rfl rfl rfl (by kernel_rfl) (by kernel_rfl) (by kernel_rfl) rfl (by exact H) (fun w H => Ev.build (jdS rfl rfl rfl)) ?_
   refine Y.A2 1 10 rfl rfl rfl ?_ ?_
   ·try replace E := E.toBelow hbw10
    refine Y.J E 0 rfl<|Y.z <| ⟨(H), ?_⟩
    refine Y.A1 10 rfl rfl ?_
    try replace E := E.toBelow hbw10
    refine OPS.buildSlice rfl rfl rfl rfl (jbV rfl) E ?_
    clear H E; intro g43 w E
    have H := E.drop (L' := [⟨g2, 123, [I 0, .slice none 0 0]⟩, ⟨g1, 28, [I m, .slice A l.length ca, .slice B ts.length cb, .slice C ns.length cc, I hd]⟩] ++ LB) (List.Sublist.cons _ (List.Sublist.cons _ (List.Sublist.append (List.Sublist.refl [_, _]) Y.sl)))
    refine Y.z <| ⟨(H), ?_⟩
    refine Y.A1 11 rfl rfl<|OPS.append (m := 1) (news := [I 0, I (2 + j), I nx.move, I 0]) (R := [⟨g43, 151, [I 0, I (2 + j), I nx.move, I 0]⟩, ⟨g5, 123, [I N, .slice A2 l0.length c2]⟩, ⟨g2, 123, [I 0, .slice none 0 0]⟩, ⟨g1, 28, [I m, .slice A l.length ca, .slice B ts.length cb, .slice C ns.length cc, I hd]⟩] ++ LB) rfl rfl rfl rfl rfl (z8 rfl) rfl rfl hO rfl (y0 E 0 rfl) rfl (by omega) (by unfold maxLen; omega) E nwR ?_
    clear H E hO; intro A2 c2 Lo2 w hO E
    simp only [List.cons_append, List.nil_append, List.append_assoc] at E
    have H := E.drop (L' := [⟨g2, 123, [I 0, .slice none 0 0]⟩, ⟨g1, 28, [I m, .slice A l.length ca, .slice B ts.length cb, .slice C ns.length cc, I hd]⟩] ++ LB) (List.Sublist.cons _ (List.Sublist.cons _ (List.Sublist.append (List.Sublist.refl [_, _]) Y.sl)))
    refine Y.z <| ⟨(H), ?_⟩
    refine Y.tf 12 H rfl<|Y.A1 13 rfl rfl<|Y.st 1 E rfl (cS rfl) rfl ?_
    clear H E; intro w E
    have H := E.drop (L' := [⟨g2, 123, [I 0, .slice none 0 0]⟩, ⟨g1, 28, [I m, .slice A l.length ca, .slice B ts.length cb, .slice C ns.length cc, I hd]⟩] ++ LB) (List.Sublist.cons _ (List.Sublist.cons _ (List.Sublist.append (List.Sublist.refl [_, _]) Y.sl)))
    refine Y.z <| ⟨(H), ?_⟩
    refine Y.dn ?_
    exact ⟨Y.ag, _, _, _, (by rw [List.flatMap_append]; simpa [Flo.arcCells] using hO), E.drop Y.sc⟩
   ·try replace E := E.toBelow hbw10
    refine OPS.buildSlice rfl rfl rfl rfl (jbV rfl) E ?_
    clear H E; intro g43 w E
    have H := E.drop (L' := [⟨g2, 123, [I 0, .slice none 0 0]⟩, ⟨g1, 28, [I m, .slice A l.length ca, .slice B ts.length cb, .slice C ns.length cc, I hd]⟩] ++ LB) (List.Sublist.cons _ (List.Sublist.cons _ (List.Sublist.append (List.Sublist.refl [_, _]) Y.sl)))
    refine Y.z <| ⟨(H), ?_⟩
    refine Y.A1 1 rfl rfl ?_
    try replace E := E.toBelow hbw10
    refine Y.J E 1 rfl<|Y.z <| ⟨(H), ?_⟩
    refine Y.A1 11 rfl rfl<|OPS.append (m := 1) (news := [I 0, I (2 + j), I nx.move, I 0]) (R := [⟨g43, 151, [I 0, I (2 + j), I nx.move, I 0]⟩, ⟨g5, 123, [I N, .slice A2 l0.length c2]⟩, ⟨g2, 123, [I 0, .slice none 0 0]⟩, ⟨g1, 28, [I m, .slice A l.length ca, .slice B ts.length cb, .slice C ns.length cc, I hd]⟩] ++ LB) rfl rfl rfl rfl rfl (z8 rfl) rfl rfl hO rfl (y0 E 0 rfl) rfl (by omega) (by unfold maxLen; omega) E nwR ?_
    clear H E hO; intro A2 c2 Lo2 w hO E
    simp only [List.cons_append, List.nil_append, List.append_assoc] at E
    have H := E.drop (L' := [⟨g2, 123, [I 0, .slice none 0 0]⟩, ⟨g1, 28, [I m, .slice A l.length ca, .slice B ts.length cb, .slice C ns.length cc, I hd]⟩] ++ LB) (List.Sublist.cons _ (List.Sublist.cons _ (List.Sublist.append (List.Sublist.refl [_, _]) Y.sl)))
    refine Y.z <| ⟨(H), ?_⟩
    refine Y.tf 12 H rfl<|Y.A1 13 rfl rfl<|Y.st 1 E rfl (cS rfl) rfl ?_
    clear H E; intro w E
    have H := E.drop (L' := [⟨g2, 123, [I 0, .slice none 0 0]⟩, ⟨g1, 28, [I m, .slice A l.length ca, .slice B ts.length cb, .slice C ns.length cc, I hd]⟩] ++ LB) (List.Sublist.cons _ (List.Sublist.cons _ (List.Sublist.append (List.Sublist.refl [_, _]) Y.sl)))
    refine Y.z <| ⟨(H), ?_⟩
    refine Y.dn ?_
    exact ⟨Y.ag, _, _, _, (by rw [List.flatMap_append]; simpa [Flo.arcCells] using hO), E.drop Y.sc⟩
  clear H
  rintro u w ⟨A2, c2, Lo2, hO, H⟩
  refine Y.q ?_
  refine WP.rheldC [8, 9, 65, 66, 67, 68, 69, 70, 71, 72, 73, 74, 75] (fun u w' => ∃ (TA : Option Addr) (LT : List Blk), u 8 = .slice TA (jaq m l v).length (jaq m l v).length ∧ u 9 = I (jay m l v) ∧ jg5 3 I TA (jaq m l v) LT ∧ SH w0 [] w' ([⟨g5, 123, jgl N A2 (l0.length + 1) c2⟩, ⟨g2, 123, [I 0, .slice none 0 0]⟩, ⟨g1, 28, [I m, .slice A l.length ca, .slice B ts.length cb, .slice C ns.length cc, I hd]⟩] ++ ((LB ++ LT) ++ Lo2))) mixed H ?_ ?_
  ·clear H; intro w hbw11 H
   refine OPH.take 0 rfl rfl rfl rfl (by kernel_rfl) (by kernel_rfl) (by kernel_rfl) rfl (by exact H) (fun w H => Ev.fieldAddr (jaf rfl) rfl) ?_
   refine OPH.take 1 rfl rfl rfl rfl (by kernel_rfl) (by kernel_rfl) (by kernel_rfl) rfl (by exact H) (fun w H => Ev.loadN [I m, .slice A l.length ca] (j6 rfl) (j4 rfl) rfl ⟨H.ldL 2 rfl 0 rfl, H.ldL 2 rfl 1 rfl, trivial⟩) ?_
   refine OPH.take 2 rfl rfl rfl rfl (by kernel_rfl) (by kernel_rfl) (by kernel_rfl) rfl (by exact H) (fun w H => Ev.mvS rfl) ?_
   refine OPH.take 3 rfl rfl rfl rfl (by kernel_rfl) (by kernel_rfl) (by kernel_rfl) rfl (by exact H) (fun w H => Ev.mvI rfl) ?_
   refine OPH.take 4 rfl rfl rfl rfl (by kernel_rfl) (by kernel_rfl) (by kernel_rfl) rfl (by exact H) (fun w H => (by exact Ev.indexAddr (x7 rfl) (j4 rfl) rfl rfl rfl (by omega))) ?_
   refine OPH.take 5 rfl rfl rfl rfl (by kernel_rfl) (by kernel_rfl) (by kernel_rfl) rfl (by exact H) (fun w H => Ev.fieldAddr (jaf rfl) rfl) ?_
   refine OPH.take 6 rfl rfl rfl rfl (by kernel_rfl) (by kernel_rfl) (by kernel_rfl) rfl (by exact H) (fun w H => Ev.load1 (j6 rfl) rfl (hcw w _ H subA).1) ?_
   refine Y.A1 7 rfl rfl ?_
   refine Y.c2 73 rfl (jhd m v A l ca _ (hN.l.sh H)) ?_
   rintro _ w ⟨TA, LT, rfl, hOL, Hc⟩
   refine ⟨_, rfl, ?_⟩
   have Hf := SH.call (Lv := []) (by rw [List.append_nil]; exact H) Hc
   clear H Hc
   have H := Hf.drop Y.sl
   refine Y.z <| ⟨(H), ?_⟩
   refine Y.t 8 H rfl rfl (fun w H => Ev.mvT rfl)<|Y.t 9 H rfl rfl (fun w H => Ev.extract rfl rfl)<|Y.t 10 H rfl rfl (fun w H => Ev.extract rfl rfl)<|Y.t 11 H rfl rfl (fun w H => Ev.asS rfl)<|Y.t 12 H rfl rfl (fun w H => Ev.asI rfl)<|Y.dn ?_
   exact ⟨Y.ag, TA, LT, rfl, rfl, hOL, Hf.perm nwT⟩
  clear H
  rintro u w ⟨TA, LT, h8, h9, hOL, H⟩
  refine WP.know (t := 8) h8 (WP.know (t := 9) h9 ?_)
  obtain ⟨hte, htl'⟩ := jcb hK.road hvm
  have htn := jau m l v
  rw [htl'] at hOL
  have hvl : (jaq m l v).length = m := by rw [htl', htn]
  refine Y.qr<|Y.bz rfl<|WP.block<|WP.loop [10, 11, 76, 77, 78, 79, 80, 81, 82, 83, 84, 85, 86, 87, 88, 89, 90, 91, 92, 93, 94, 95, 96, 97, 98, 99, 100, 101, 102, 103, 104, 105] (fun k e w' => ∃ (q : Nat) (A1 : Option Addr) (c1 : Nat) (Lo : List Blk), q + k = bs.length ∧ e 10 = I q ∧ OwnS A1 c1 (l0 ++ ((⟨0, 2 + j, nx.move, 0⟩ : Flo.Arc) :: Flo.rowArcs (2 + j) (2 + cs.length) (rl.take q))).length ((l0 ++ ((⟨0, 2 + j, nx.move, 0⟩ : Flo.Arc) :: Flo.rowArcs (2 + j) (2 + cs.length) (rl.take q))).flatMap Flo.arcCells) 151 4 Lo ∧ SH w0 [] w' ([⟨g5, 123, jgl N A1 (l0 ++ ((⟨0, 2 + j, nx.move, 0⟩ : Flo.Arc) :: Flo.rowArcs (2 + j) (2 + cs.length) (rl.take q))).length c1⟩, ⟨g2, 123, [I 0, .slice none 0 0]⟩, ⟨g1, 28, [I m, .slice A l.length ca, .slice B ts.length cb, .slice C ns.length cc, I hd]⟩] ++ ((LB ++ LT) ++ Lo))) (bs.length) (⟨0, A2, c2, Lo2, by omega, rfl, (by rw [List.take_zero]; simpa [Flo.rowArcs] using hO), (by rw [List.take_zero]; simpa [Flo.rowArcs] using H)⟩) ?_
  clear H hO
  rintro k2 u2 w ⟨q, A3, c3, Lo3, hk2, h10, hO3, H⟩
  refine WP.know (t := 10) h10 ?_
  have hrl2 := Flo.row_len (2 + j) (rl.take q) (2 + cs.length)
  have hrl3 : (rl.take q).length ≤ rl.length := List.length_take_le' _ _
  obtain ⟨l2, hl2⟩ : ∃ l2, l2 = l0 ++ ((⟨0, 2 + j, nx.move, 0⟩ : Flo.Arc) :: Flo.rowArcs (2 + j) (2 + cs.length) (rl.take q)) := ⟨_, rfl⟩
  have hl2n : l2.length ≤ 320 := by rw [hl2, List.length_append, List.length_cons]; omega
  rw [← hl2] at hO3 H
  unfold jgl at H
  refine Y.qq<|Y.a rfl<|Y.sS rfl<|Y.E rfl<|Y.lt rfl<|Y.z ?_
  refine Y.i rfl (fun hc13 => ?_) fun hc13 => ?_
  ·have hlt2 : q < bs.length := by simpa using hc13
   have hbx := hbm bs[q] (List.getElem_mem hlt2)
   have hrt := Flo.row_take (f := 2 + j) (g := 2 + cs.length) (r := rl) (k := q) (by omega)
   have hre : rl[q]'(by omega) = x9 m l v bs[q].node.toNat := by simp [hrl]
   rw [hre] at hrt
   obtain ⟨y, hy⟩ := Int.eq_ofNat_of_zero_le hbx.1.1
   have hym : y < m := by omega
   have hyt : bs[q].node.toNat = y := by omega
   rw [hyt] at hrt
   have hxb := jca hK.road hvm hym
   have hxt : (jan m l v)[y]'(by omega) = x9 m l v y := jbG (by omega)
   obtain ⟨x, hx⟩ : ∃ x, x = x9 m l v y := ⟨_, rfl⟩
   rw [← hx] at hrt hxb hxt
   obtain ⟨b2, o2, rfl, hc2⟩ := hrB.at H subB q hlt2
   have hci : w.cell? ⟨b2, o2 + q * 2, none⟩ = some (I y) := by have := hc2.1; rw [hy] at this; exact this
   have hx0 := hOL.rd H (fun b hb => List.mem_append_right _ (List.mem_append_left _ (List.mem_append_right _ hb)))
   obtain ⟨bT, oT, rfl, hxv⟩ := hx0 y (by omega)
   rw [hxt] at hxv
   have hyl : y < (jaq m l v).length := by omega
   refine Y.k<|Y.q<|WP.block<|Y.qr<|Y.sS rfl<|Y.sS rfl<|Y.a rfl<|Y.U rfl<|Y.F rfl<|Y.v (Y.c (by assumption) rfl) ?_
   refine Y.I rfl<|Y.v (Y.c (by assumption) rfl) ?_
   refine Y.bz rfl<|Y.qr<|Y.a rfl<|Y.v (Ev.geq rfl rfl)<|Y.z ?_
   refine Y.i rfl (fun hc16 => ?_) fun hc16 => ?_
   ·have hx0 : 0 ≤ x := by simpa using hc16
    rw [if_pos hx0] at hrt
    have hl3 : l0 ++ ((⟨0, 2 + j, nx.move, 0⟩ : Flo.Arc) :: Flo.rowArcs (2 + j) (2 + cs.length) (rl.take (q + 1))) = l2 ++ [(⟨2 + j, 2 + cs.length + q, 65536, x⟩ : Flo.Arc)] := by rw [hl2, hrt]; simp
    refine Y.r<|Y.W H 0 rfl<|Y.a rfl<|Y.P rfl<|Y.sS rfl<|Y.E rfl<|Y.P rfl<|Y.a rfl<|Y.P rfl<|Y.a rfl<|Y.v (Ev.build (jc8 rfl rfl rfl rfl))<|OPS.buildSlice rfl rfl rfl rfl (jbV rfl) H ?_
    clear H; intro g103 w H
    refine OPS.append (m := 1) (news := [I (2 + j), I (2 + cs.length + q), I 65536, I x]) (R := [⟨g103, 151, [I (2 + j), I (2 + cs.length + q), I 65536, I x]⟩, ⟨g5, 123, [I N, .slice A3 l2.length c3]⟩, ⟨g2, 123, [I 0, .slice none 0 0]⟩, ⟨g1, 28, [I m, .slice A l.length ca, .slice B ts.length cb, .slice C ns.length cc, I hd]⟩] ++ (LB ++ LT)) rfl rfl rfl rfl rfl (z8 rfl) rfl rfl hO3 rfl (y0 H 0 rfl) rfl (by omega) (by unfold maxLen; omega) H nwR ?_
    clear H hO3; intro A3 c3 Lo3 w hO3 H
    simp only [List.cons_append, List.nil_append, List.append_assoc] at H
    refine Y.F rfl<|Y.ss 1 H rfl (cS rfl) rfl ?_
    clear H; intro w H
    refine Y.z<|Y.r<|Y.a rfl<|Y.P rfl<|Y.bz rfl ?_
    have hl4 : (l2 ++ [(⟨2 + j, 2 + cs.length + q, 65536, x⟩ : Flo.Arc)]).length = l2.length + 1 := by simp
    exact ⟨Y.ag, k2 - 1, by omega, q + 1, A3, c3, Lo3, by omega, rfl, (by rw [hl3, hl4, List.flatMap_append]; simpa [Flo.arcCells] using hO3), (by rw [hl3, hl4, List.append_assoc LB]; exact H.drop Y.sc)⟩
   have hx0 : ¬ 0 ≤ x := by simpa using hc16
   rw [if_neg hx0, List.append_nil] at hrt
   have hl3 : l2 = l0 ++ ((⟨0, 2 + j, nx.move, 0⟩ : Flo.Arc) :: Flo.rowArcs (2 + j) (2 + cs.length) (rl.take (q + 1))) := by rw [hl2, hrt]
   refine Y.k<|Y.r<|Y.a rfl<|Y.P rfl<|Y.bz rfl ?_
   have hl4 : (l2 ++ [(⟨2 + j, 2 + cs.length + q, 65536, x⟩ : Flo.Arc)]).length = l2.length + 1 := by simp
   exact ⟨Y.ag, k2 - 1, by omega, q + 1, A3, c3, Lo3, by omega, rfl, (by rw [← hl3]; exact hO3), (by rw [← hl3]; exact H)⟩
  refine WP.exit<|XB.hit<|Y.r<|Y.a rfl<|Y.P rfl<|Y.bz rfl ?_
  have hq : q = bs.length := by simp at hc13; omega
  rw [hq, List.take_of_length_le (show rl.length ≤ bs.length by omega), hl0, List.append_assoc, ← hct] at hl2
  rw [hl2] at hO3 H
  exact ⟨Y.ag, k - 1, by omega, j + 1, A3, c3, Lo3, by omega, rfl, hO3, H.drop nwS⟩
 have hj : j = cs.length := by simp at hc8; omega
 subst hj
 have hnet : l0 = jfq (jbg ns) (jao ns) (jct m l ns) := by
  rw [hl0, hl1, List.take_of_length_le (show CC.length ≤ cs.length by omega), List.take_of_length_le (show tm.length ≤ cs.length by omega), ← hCCl, hCC, hDD, htm]; rfl
 have hNf : N = ((jbg ns).length + (jao ns).length + 2 : Nat) := by rw [hNe, hCl, hDl]; omega
 rw [hNf] at H
 rw [hnet] at hO H
 simp only [List.cons_append, List.nil_append] at H
 refine WP.exit<|XB.hit<|Y.qr<|Y.O H 0 rfl<|Y.ss 1 H rfl (cA rfl) rfl ?_
 clear H; intro w H
 refine Y.z ?_
 refine WP.ret ⟨[_], ⟨(by exact x6 1 H rfl (j6 rfl) (j4 rfl) (by rfl) rfl), trivial⟩, ?_⟩
 have H2 : SH w0 [] w ([_, _, _] ++ (LB ++ Lo2)) := H
 exact ⟨A2, c2, Lo2, rfl, fun w0 S w H => (hO.rows (enc := Flo.arcCells) (l := jfq (jbg ns) (jao ns) (jct m l ns)) (fun _ => rfl) (by decide) (R := []) H).1, H2.drop (Y.sr.trans Y.sr)⟩
end Go.Proofs.YtgcokllbophkkaaGreat
namespace Go.Proofs.YtgcokllbophkkaaGreat.Flo
open Go Go.W
theorem jjO (x : Nat) (xd : Int) (pots : List Int) (done : List Bool) (a b arc : Nat) (room cost : Int) (fwd : Bool) (s : NSt) : ∃ s', jfI x xd pots done a b arc room cost fwd s s' := by
 unfold jfI
 by_cases h : jec x xd pots done s a b cost = true
 ·exact ⟨⟨s.sts.set b ⟨a, arc, room, fwd, true, 0⟩, s.dist.set b (xd + cost + pots.getD a 0 - pots.getD b 0), s.h ++ [⟨b, xd + cost + pots.getD a 0 - pots.getD b 0, s.p⟩], s.p + 1, none, 0, []⟩, by rw [if_pos h]; exact ⟨rfl, rfl, List.Perm.refl _, rfl⟩⟩
 ·exact ⟨s, by rw [if_neg h]; exact ⟨rfl, rfl, rfl, rfl⟩⟩
theorem jij {x : Nat} {xd : Int} {pots : List Int} {done : List Bool} {a b arc : Nat} {room cost : Int} {fwd : Bool} {s s' : NSt} (h : jfI x xd pots done a b arc room cost fwd s s') : s'.h.length ≤ s.h.length + 1 := by
 unfold jfI at h
 split at h
 ·have := h.2.2.1.length_eq; simp at this; omega
 ·rw [h.2.2.1]; omega
theorem jnz {x : Nat} {xd : Int} {pots : List Int} {done : List Bool} {a b arc : Nat} {room cost : Int} {fwd : Bool} {s s' : NSt} (h : jfI x xd pots done a b arc room cost fwd s s') (hx : dnB done x = true) (hb : b < s.dist.length) : dAt s'.dist x = dAt s.dist x := by
 unfold jfI at h
 split at h
 ·rename_i hc
  unfold jec at hc
  simp only [Bool.and_eq_true, Bool.not_eq_true'] at hc
  have hne : b ≠ x := fun he => by
   have h1 : dnB done b = false := hc.1.2
   rw [he, hx] at h1; cases h1
  rw [h.2.1, jbI hb, if_neg hne]
 ·rw [h.2.1]
section
variable {pots : List Int} {l : List Arc} {on : List Int} {n s : Nat}
theorem jeX (hn : jar n l) (hc : ∀ a ∈ l, 0 ≤ a.cost ∧ a.cost ≤ 65536) (ho : OptPot (potF pots) l on) (hlen : on.length = l.length) {x : Nat} {done : List Bool} {rk : Nat → Int} {D : Int} (hx : x < n) (hdx : dnB done x = true) :
  ∀ (j : Nat) (st : NSt), DI (potF pots) l on n s x (fun _ _ => False) st done rk D → D = dAt st.dist x → j ≤ l.length → ∃ st', DI (potF pots) l on n s x (fun i _ => i < j) st' done rk D ∧ D = dAt st'.dist x ∧ st'.h.length ≤ st.h.length + 2 * j
 | 0, st, h, hD, _ => ⟨st, h.pr fun _ _ _ _ _ _ _ q => absurd q (by omega), hD, by omega⟩
 | j + 1, st, h, hD, hj => by
  obtain ⟨s1, h1, hD1, hl1⟩ := jeX hn hc ho hlen hx hdx j st h hD (by omega)
  have hjl : j < l.length := by omega
  obtain ⟨a, b, ha, hb, hfa, htb, e1, e2⟩ := jdi (on := on) hn hjl (by omega) (potF pots)
  have hcj := hc l[j] (List.getElem_mem hjl)
  have hw : rc (potF pots) l[j] = l[j].cost + pots.getD a 0 - pots.getD b 0 := by unfold rc; rw [hfa, htb]; simp [potF]
  have m1 : ∃ s2, DI (potF pots) l on n s x (fun i f => i < j ∨ (i = j ∧ f = true)) s2 done rk D ∧ D = dAt s2.dist x ∧ s2.h.length ≤ s1.h.length + 1 := by
   by_cases hlt : on[j] < l[j].cap
   ·obtain ⟨s2, hV⟩ := jjO x (dAt s1.dist x) pots done a b j (l[j].cap - on[j]) l[j].cost true s1
    exact ⟨s2, h1.visit ho (e1 hlt) hx hdx hD1 hb hw (by simp [potF]) (by simp [potF]) hcj.2 hV, by rw [jnz hV hdx (by rw [h1.dlen]; exact hb)]; exact hD1, jij hV⟩
   ·exact ⟨s1, h1.pr fun i f u v r w hE hp => by
     rcases hp with hp | ⟨rfl, rfl⟩
     ·exact hp
     ·obtain ⟨_, _, q, _⟩ := hE; exact absurd (q rfl).2.2.2.1 hlt, hD1, by omega⟩
  obtain ⟨s2, h2, hD2, hl2⟩ := m1
  by_cases hlt : 0 < on[j]
  ·obtain ⟨s3, hV⟩ := jjO x (dAt s2.dist x) pots done b a j on[j] (-l[j].cost) false s2
   refine ⟨s3, (h2.visit ho (e2 hlt) hx hdx hD2 ha (by omega) (by simp [potF]) (by simp [potF]) (by omega) hV).pr fun i f u v r w _ hp => ?_, by rw [jnz hV hdx (by rw [h2.dlen]; exact ha)]; exact hD2, by have := jij hV; omega⟩
   rcases Nat.lt_succ_iff_lt_or_eq.1 hp with hp | rfl
   ·exact .inl (.inl hp)
   ·cases f with
    | true => exact .inl (.inr ⟨rfl, rfl⟩)
    | false => exact .inr ⟨rfl, rfl⟩
  ·refine ⟨s2, h2.pr fun i f u v r w hE hp => ?_, hD2, by omega⟩
   rcases Nat.lt_succ_iff_lt_or_eq.1 hp with hp | rfl
   ·exact .inl hp
   ·cases f with
    | true => exact .inr ⟨rfl, rfl⟩
    | false => obtain ⟨_, _, _, q⟩ := hE; exact absurd (q rfl).2.2.2.1 hlt
theorem jgV : ∀ (h : List Ent), h ≠ [] → ∃ y h', (y :: h').Perm h ∧ ∀ z ∈ h, y.dist ≤ z.dist
 | [], hne => absurd rfl hne
 | [y], _ => ⟨y, [], List.Perm.refl _, fun z hz => by simp at hz; subst hz; exact Int.le_refl _⟩
 | x :: y :: t, _ => by
  obtain ⟨z, h', hp, hm⟩ := jgV (y :: t) (by simp)
  by_cases hxz : x.dist ≤ z.dist
  ·refine ⟨x, y :: t, List.Perm.refl _, fun u hu => ?_⟩
   rcases List.mem_cons.1 hu with rfl | hu
   ·exact Int.le_refl _
   ·have := hm u hu; omega
  ·refine ⟨z, x :: h', (List.Perm.swap x z h').trans (List.Perm.cons x hp), fun u hu => ?_⟩
   rcases List.mem_cons.1 hu with rfl | hu
   ·omega
   ·exact hm u hu
theorem jel {a b k x y z m : Nat} (hl3 : x ≤ y + 2 * m) (hm : m ≤ 512) (h1 : a + 2000 ≤ b) (h2 : y + 1 = z) (hk : b + z ≤ k + 1) : a + x ≤ k := by
 have h4 : x ≤ y + 1024 := by omega
 have h5 : a + 1024 ≤ b := by omega
 omega
theorem je5 {a b k x y z m : Nat} (hl3 : x ≤ y + 2 * m) (hm : m ≤ 512) (h1 : a < b) (h2 : y + 1 = z) (hk : b * 2000 + z ≤ k + 1) : a * 2000 + x ≤ k :=
 jel hl3 hm (by rw [← Nat.succ_mul]; exact Nat.mul_le_mul_right _ h1) h2 hk
theorem near_of (hn : jar n l) (hll : l.length ≤ 512) (hc : ∀ a ∈ l, 0 ≤ a.cost ∧ a.cost ≤ 65536) (ho : OptPot (potF pots) l on) (hlen : on.length = l.length) :
  ∀ (k : Nat) (st : NSt) (done : List Bool) (rk : Nat → Int) (D : Int) (x : Nat), DI (potF pots) l on n s x (fun _ _ => True) st done rk D → jaN done * 2000 + st.h.length ≤ k → ∃ sts dist rk, jhO (potF pots) l on n s sts dist rk := by
 intro k
 induction k with
 | zero =>
  intro st done rk D x h hk
  exact ⟨_, _, _, h.near (List.length_eq_zero_iff.1 (by omega))⟩
 | succ k ih =>
  intro st done rk D x h hk
  by_cases he : st.h = []
  ·exact ⟨_, _, _, h.near he⟩
  ·obtain ⟨y, h', hp, hm⟩ := jgV st.h he
   have hl := hp.length_eq
   simp only [List.length_cons] at hl
   obtain ⟨v, hv, hyv, _, _⟩ := h.ent y (hp.subset (List.mem_cons_self ..))
   cases hd : dnB done v with
   | true => exact ih _ _ _ _ _ (h.stale hp hyv hd (A := none) (cap := 0) (Lo := []) (q := 0)) (by show jaN done * 2000 + h'.length ≤ k; omega)
   | false =>
    obtain ⟨hyd, h2⟩ := h.fresh hp hm hyv hv hd (A := none) (cap := 0) (Lo := []) (q := 0)
    have hvl : v < done.length := by rw [h.olen]; exact hv
    have ho2 := jb1 done v hvl hd
    obtain ⟨st3, h3, _, hl3⟩ := jeX hn hc ho hlen hv (by rw [jc3 hvl, if_pos rfl]) l.length _ h2 hyd (Nat.le_refl _)
    have hl3 : st3.h.length ≤ h'.length + 2 * l.length := hl3
    have hk2 : jaN (done.set v true) * 2000 + st3.h.length ≤ k := by
     exact je5 hl3 hll ho2 hl hk
    exact ih st3 (done.set v true) _ _ _ (h3.pr fun i _ _ _ _ _ hE _ => hE.1) hk2
theorem jhR (hn : jar n l) (hll : l.length ≤ 512) (hc : ∀ a ∈ l, 0 ≤ a.cost ∧ a.cost ≤ 65536) (ho : OptPot (potF pots) l on) (hlen : on.length = l.length) (hs : s < n) (hp0 : pots.getD s 0 = 0) : ∃ sts dist rk, jhO (potF pots) l on n s sts dist rk :=
 near_of hn hll hc ho hlen (n * 2000 + 1) _ _ _ _ s (DI.init hs (by show pots.getD (s : Int).toNat 0 ≤ 0; rw [Int.toNat_natCast, hp0]; exact Int.le_refl _) (A := none) (cap := 0) (Lo := []) (q := 0)) (by simp [jaN])
abbrev p0 : Int → Int := fun _ => 0
structure SP (l : List Arc) (on : List Int) (n s : Nat) (K : Nat → Bool) (D : Nat → Int) (rk : Nat → Int) : Prop where
 src : K s = true ∧ D s = 0
 clo : ∀ i fw u v r w, jaZ p0 l on i fw u v r w → u < n → v < n → K u = true → K v = true ∧ D v ≤ D u + w
 par : ∀ v, v < n → K v = true → v ≠ s → ∃ u i fw r w, u < n ∧ K u = true ∧ jaZ p0 l on i fw u v r w ∧ D v = D u + w ∧ rk u < rk v
 rkb : ∀ v, v < n → K v = true → 0 ≤ rk v ∧ rk v ≤ n
 bd : ∀ v, v < n → K v = true → -65536 * (n : Int) ≤ D v ∧ D v ≤ 65536 * n
theorem jaZ.cost {p : Int → Int} {i : Nat} {fw : Bool} {u v : Nat} {r w : Int} (h : jaZ p l on i fw u v r w) (q : Int → Int) : jaZ q l on i fw u v r (w - p u + p v + q u - q v) := by
 obtain ⟨h1, h2, a, b⟩ := h
 refine ⟨h1, h2, fun hf => ?_, fun hf => ?_⟩
 ·obtain ⟨g1, g2, g3, g4, g5⟩ := a hf
  refine ⟨g1, g2, g3, g4, ?_⟩
  unfold rc at g5 ⊢; rw [g1, g2] at g5 ⊢; omega
 ·obtain ⟨g1, g2, g3, g4, g5⟩ := b hf
  refine ⟨g1, g2, g3, g4, ?_⟩
  unfold rc at g5 ⊢; rw [g1, g2] at g5 ⊢; omega
theorem jaZ.toCost {p : Int → Int} {i : Nat} {fw : Bool} {u v : Nat} {r w : Int} (h : jaZ p l on i fw u v r w) : jaZ p0 l on i fw u v r (w - p u + p v) := by
 have := h.cost p0
 rw [show w - p u + p v + p0 u - p0 v = w - p u + p v by simp [p0]] at this; exact this
theorem jaZ.ofCost {p : Int → Int} {i : Nat} {fw : Bool} {u v : Nat} {r w : Int} (h : jaZ p0 l on i fw u v r w) : jaZ p l on i fw u v r (w + p u - p v) := by
 have := h.cost p
 rw [show w - p0 u + p0 v + p u - p v = w + p u - p v by simp [p0]] at this; exact this
theorem jkC (a : Arc) : rc p0 a = a.cost := by simp [rc, p0]
theorem jhO.sp {sts : List Step} {dist : List Int} {rk : Nat → Int} (h : jhO (potF pots) l on n s sts dist rk) (hp0 : pots.getD s 0 = 0) (hc : ∀ a ∈ l, 0 ≤ a.cost ∧ a.cost ≤ 65536) : SP l on n s (kn sts) (fun v => dAt dist v + pots.getD v 0) rk := by
 have hpn : ∀ v : Nat, potF pots v = pots.getD v 0 := fun v => by simp [potF]
 have par : ∀ v, v < n → kn sts v = true → v ≠ s → ∃ u i fw r w, u < n ∧ kn sts u = true ∧ jaZ p0 l on i fw u v r w ∧ dAt dist v + pots.getD v 0 = dAt dist u + pots.getD u 0 + w ∧ rk u < rk v := fun v hv hk hvs => by
  obtain ⟨u, i, fw, r, w, q1, q2, q3, q4, q5, q6⟩ := h.par v hv hk hvs
  refine ⟨u, i, fw, r, _, q1, q2, q3.toCost, ?_, q6⟩
  rw [hpn, hpn]; omega
 refine ⟨⟨h.src.1, by show dAt dist s + pots.getD s 0 = 0; rw [h.src.2, hp0]; rfl⟩, fun i fw u v r w hE hu hv hk => ?_, par, h.rkb, fun v hv hk => ⟨?_, by have := h.bd v hv hk; rw [hpn] at this; exact this⟩⟩
 ·have hE2 := hE.ofCost (p := potF pots)
  obtain ⟨q1, q2⟩ := h.clo i fw u v r _ hE2 hu hv hk
  rw [hpn, hpn] at q2
  exact ⟨q1, by show dAt dist v + _ ≤ dAt dist u + _ + w; omega⟩
 ·skip
  have key : ∀ (m : Nat) (v : Nat), v < n → kn sts v = true → rk v ≤ m → -65536 * (m : Int) ≤ dAt dist v + pots.getD v 0 := by
   intro m
   induction m with
   | zero =>
    intro v hv hk hm
    by_cases hvs : v = s
    ·subst hvs; rw [h.src.2, hp0]; simp
    ·obtain ⟨u, _, _, _, _, hu, hku, _, _, hr⟩ := par v hv hk hvs
     have := (h.rkb u hu hku).1; omega
   | succ m ih =>
    intro v hv hk hm
    by_cases hvs : v = s
    ·subst hvs; rw [h.src.2, hp0]; omega
    ·obtain ⟨u, i, fw, r, w, hu, hku, hE, hd, hr⟩ := par v hv hk hvs
     have h1 := ih u hu hku (by omega)
     have hw : -65536 ≤ w := by
      obtain ⟨g1, g2, a, b⟩ := hE
      have hcc := hc l[i] (List.getElem_mem g1)
      cases fw with
      | true => have := (a rfl).2.2.2.2; rw [jkC] at this; omega
      | false => have := (b rfl).2.2.2.2; rw [jkC] at this; omega
     omega
  exact key n v hv hk (h.rkb v hv hk).2
end
end Go.Proofs.YtgcokllbophkkaaGreat.Flo
namespace Go.Proofs.YtgcokllbophkkaaGreat.Flo
open Go Go.W
def Closed (l : List Arc) (on : List Int) (S : Nat → Bool) : Prop := ∀ i (h : i < l.length) (h2 : i < on.length),
 (on[i] < l[i].cap → S l[i].f.toNat = true → S l[i].t.toNat = true) ∧ (0 < on[i] → S l[i].t.toNat = true → S l[i].f.toNat = true)
structure jns (l : List Arc) (on : List Int) (n s : Nat) (R : Nat → Bool) : Prop where
 src : R s = true
 clo : Closed l on R
 least : ∀ S : Nat → Bool, S s = true → Closed l on S → ∀ v, v < n → R v = true → S v = true
section
variable {l : List Arc} {n s t : Nat} {on on' : List Int} {amt : Int} {R R' : Nat → Bool}
theorem ji8 (hn : jar n l) (hs : s < n) (hf : IsFlow n l s t on amt) (h1 : R s = true) (h2 : R t = false) (hc : Closed l on R) : jaI (fun u => R u.toNat) l = amt := by
 rw [← jb7 _ l on hf.v.len fun i hi hi2 => ?_]
 ·exact hf.set hn ⟨by omega, by omega⟩ (by simpa using h1) (by simpa using h2)
 ·obtain ⟨c1, c2⟩ := hc i hi hi2
  have hb := hf.v.bd i hi hi2
  refine ⟨fun u1 u2 => ?_, fun u1 u2 => ?_⟩
  ·rcases Int.lt_or_eq_of_le hb.2 with hlt | he
   ·rw [c1 hlt u1] at u2; cases u2
   ·exact he
  ·rcases Int.lt_or_eq_of_le hb.1 with hlt | he
   ·rw [c2 hlt u2] at u1; cases u1
   ·exact he.symm
end
end Go.Proofs.YtgcokllbophkkaaGreat.Flo
namespace Go.Proofs.YtgcokllbophkkaaGreat.Flo
open Go Go.W
def encS (i : Nat) (fw : Bool) : Int := if fw = true then (i : Int) + 1 else -(i : Int) - 1
def jdd : Int := 1099511627776
structure BFI (l : List Arc) (on : List Int) (n s : Nat) (K : Nat → Bool) (D : Nat → Int) (rk : Nat → Int) (r : Int) (Pr : Nat → Bool → Prop) (d stp : List Int) (fin : List Bool) (T : Nat → Int) : Prop where
  dlen : d.length = n
  stlen : stp.length = n
  flen : fin.length = n
  finI : ∀ v, v < n → (dnB fin v = true ↔ (K v = true ∧ dAt d v = D v))
  unk : ∀ v, v < n → K v = false → dAt d v = jdd
  lo : ∀ v, v < n → K v = true → D v ≤ dAt d v ∧ dAt d v ≤ jdd
  tr : ∀ v, v < n → dnB fin v = true → v ≠ s → ∃ u i fw q w, u < n ∧ dnB fin u = true ∧ jaZ p0 l on i fw u v q w ∧ dAt stp v = encS i fw ∧ D v = D u + w ∧ T u < T v
  tb : ∀ v, v < n → dnB fin v = true → 0 ≤ T v ∧ T v < (n : Int) - jaN fin
  rnd : ∀ v, v < n → K v = true → rk v ≤ r → dnB fin v = true
  sf : dnB fin s = true
  pr : ∀ i fw u v q w, jaZ p0 l on i fw u v q w → Pr i fw → u < n → v < n → K u = true → rk u ≤ r → dAt d v ≤ D u + w
section
variable {l : List Arc} {on : List Int} {n s : Nat} {K : Nat → Bool} {D : Nat → Int} {rk : Nat → Int} {r : Int} {Pr : Nat → Bool → Prop} {d stp : List Int} {fin : List Bool} {T : Nat → Int}
theorem BFI.mono (h : BFI l on n s K D rk r Pr d stp fin T) {Pr' : Nat → Bool → Prop} (hp : ∀ i fw u v q w, jaZ p0 l on i fw u v q w → Pr' i fw → Pr i fw) : BFI l on n s K D rk r Pr' d stp fin T :=
  { h with pr := fun i fw u v q w hE hp' => h.pr i fw u v q w hE (hp i fw u v q w hE hp') }
theorem BFI.init (hS : SP l on n s K D rk) (hn : n ≤ 64) (hs : s < n) : BFI l on n s K D rk 0 (fun _ _ => False) ((List.replicate n jdd).set s 0) (List.replicate n 0) ((List.replicate n false).set s true) (fun _ => 0) := by
  have hd : ∀ v, v < n → dAt ((List.replicate n jdd).set s 0) v = if s = v then 0 else jdd := fun v hv => by rw [jbI (by simpa using hs)]; simp [dAt, hv]
  have hf : ∀ v, v < n → dnB ((List.replicate n false).set s true) v = if s = v then true else false := fun v hv => by rw [jc3 (by simpa using hs)]; simp [dnB, hv]
  have hfs : ∀ v, v < n → dnB ((List.replicate n false).set s true) v = true → v = s := fun v hv h => by
    rw [hf v hv] at h; split at h
    · rename_i e; exact e.symm
    · cases h
  have ho := jb1 (List.replicate n false) s (by simpa using hs) (by simp [hs])
  have ho2 : jaN (List.replicate n false) = n := by simp [jaN]
  refine ⟨by simp, by simp, by simp, fun v hv => ?_, fun v hv hk => ?_, fun v hv hk => ?_, fun v hv h hvs => absurd (hfs v hv h) hvs, fun v hv h => by constructor <;> omega, fun v hv hk hr => ?_, by rw [hf s hs, if_pos rfl], fun i fw u v q w _ hp => hp.elim⟩
  · rw [hf v hv, hd v hv]
    by_cases h : s = v
    · subst h; simp [hS.src.1, hS.src.2]
    · simp only [if_neg h]
      constructor
      · intro q; cases q
      · rintro ⟨q1, q2⟩
        have := (hS.bd v hv q1).2
        unfold jdd at q2; omega
  · rw [hd v hv, if_neg (fun h => by subst h; rw [hS.src.1] at hk; cases hk)]
  · have := hS.bd v hv hk
    rw [hd v hv]
    split
    · rename_i h; subst h; rw [hS.src.2]; unfold jdd; omega
    · unfold jdd; omega
  · by_cases h : v = s
    · subst h; rw [hf v hv, if_pos rfl]
    · obtain ⟨u, _, _, _, _, hu, hku, _, _, hlt⟩ := hS.par v hv hk h
      have := (hS.rkb u hu hku).1; omega
theorem BFI.relax (h : BFI l on n s K D rk r Pr d stp fin T) (hS : SP l on n s K D rk) (hn : n ≤ 64) {i : Nat} {fw : Bool} {u v : Nat} {q w : Int} (hE : jaZ p0 l on i fw u v q w) (hu : u < n) (hv : v < n) (h1 : dAt d u < jdd) (h2 : dAt d u + w < dAt d v) :
    ∃ fin' T', BFI l on n s K D rk r (fun j f => Pr j f ∨ (j = i ∧ f = fw)) (d.set v (dAt d u + w)) (stp.set v (encS i fw)) fin' T' := by
  have hku : K u = true := by
    cases hk : K u with
    | true => rfl
    | false => have := h.unk u hu hk; omega
  obtain ⟨hkv, hdv⟩ := hS.clo i fw u v q w hE hu hv hku
  have hlu := h.lo u hu hku
  have hlv := h.lo v hv hkv
  have huv : u ≠ v := fun he => by subst he; omega
  have hvl : v < d.length := by rw [h.dlen]; exact hv
  have hvs : v < stp.length := by rw [h.stlen]; exact hv
  have hvf : v < fin.length := by rw [h.flen]; exact hv
  have hnf : dnB fin v = false := by
    cases hf : dnB fin v with
    | false => rfl
    | true => have := ((h.finI v hv).1 hf).2; omega
  have hvne : v ≠ s := fun he => by rw [he, h.sf] at hnf; cases hnf
  have d1 : ∀ x, x ≠ v → dAt (d.set v (dAt d u + w)) x = dAt d x := fun x hx => by rw [jbI hvl, if_neg (Ne.symm hx)]
  have d2 : dAt (d.set v (dAt d u + w)) v = dAt d u + w := by rw [jbI hvl, if_pos rfl]
  have s1 : ∀ x, x ≠ v → dAt (stp.set v (encS i fw)) x = dAt stp x := fun x hx => by rw [jbI hvs, if_neg (Ne.symm hx)]
  have s2 : dAt (stp.set v (encS i fw)) v = encS i fw := by rw [jbI hvs, if_pos rfl]
  have hfne : ∀ x, dnB fin x = true → x ≠ v := fun x hx he => by rw [he, hnf] at hx; cases hx
  have hunk : ∀ x, x < n → K x = false → dAt (d.set v (dAt d u + w)) x = jdd := fun x hx hk => by
    rw [d1 x (fun he => by rw [he, hkv] at hk; cases hk)]; exact h.unk x hx hk
  have hlo : ∀ x, x < n → K x = true → D x ≤ dAt (d.set v (dAt d u + w)) x ∧ dAt (d.set v (dAt d u + w)) x ≤ jdd := fun x hx hk => by
    by_cases he : x = v
    · subst he; rw [d2]; omega
    · rw [d1 x he]; exact h.lo x hx hk
  have hpr : ∀ j f a b q' w', jaZ p0 l on j f a b q' w' → (Pr j f ∨ (j = i ∧ f = fw)) → a < n → b < n → K a = true → rk a ≤ r → dAt (d.set v (dAt d u + w)) b ≤ D a + w' := fun j f a b q' w' hE' hp ha hb hka hra => by
    rcases hp with hp | ⟨rfl, rfl⟩
    · have := h.pr j f a b q' w' hE' hp ha hb hka hra
      by_cases he : b = v
      · subst he; rw [d2]; omega
      · rw [d1 b he]; exact this
    · obtain ⟨g1, g2, g3⟩ := hE'.same hE
      subst g1 g2 g3
      have := ((h.finI a ha).1 (h.rnd a ha hka hra)).2
      rw [d2]; omega
  by_cases hfin : dAt d u + w = D v
  · have hdu : dAt d u = D u := by omega
    have hfu : dnB fin u = true := (h.finI u hu).2 ⟨hku, hdu⟩
    have hop := jb1 fin v hvf hnf
    have f1 : ∀ x, x ≠ v → dnB (fin.set v true) x = dnB fin x := fun x hx => by rw [jc3 hvf, if_neg (Ne.symm hx)]
    have f2 : dnB (fin.set v true) v = true := by rw [jc3 hvf, if_pos rfl]
    have f3 : ∀ x, dnB fin x = true → dnB (fin.set v true) x = true := fun x hx => by rw [f1 x (hfne x hx)]; exact hx
    refine ⟨fin.set v true, fun x => if x = v then (n : Int) - jaN fin else T x, ⟨by simp [h.dlen], by simp [h.stlen], by simp [h.flen], fun x hx => ?_, hunk, hlo, fun x hx hf hxs => ?_, fun x hx hf => ?_, fun x hx hk hr => f3 x (h.rnd x hx hk hr), f3 s h.sf, hpr⟩⟩
    · by_cases he : x = v
      · subst he; rw [f2, d2]; simp [hkv, hfin]
      · rw [f1 x he, d1 x he]; exact h.finI x hx
    · by_cases he : x = v
      · subst he
        exact ⟨u, i, fw, q, w, hu, f3 u hfu, hE, s2, by omega, by simp only [if_neg (hfne u hfu), if_true]; exact (h.tb u hu hfu).2⟩
      · rw [f1 x he] at hf
        obtain ⟨a, j, f, q', w', a1, a2, a3, a4, a5, a6⟩ := h.tr x hx hf hxs
        exact ⟨a, j, f, q', w', a1, f3 a a2, a3, by rw [s1 x he]; exact a4, a5, by simp only [if_neg he, if_neg (hfne a a2)]; exact a6⟩
    · by_cases he : x = v
      · subst he
        have := jfW fin; rw [h.flen] at this
        simp only [if_true]; omega
      · rw [f1 x he] at hf
        have := h.tb x hx hf
        simp only [if_neg he]; omega
  · refine ⟨fin, T, ⟨by simp [h.dlen], by simp [h.stlen], h.flen, fun x hx => ?_, hunk, hlo, fun x hx hf hxs => ?_, h.tb, h.rnd, h.sf, hpr⟩⟩
    · by_cases he : x = v
      · subst he; rw [hnf, d2]
        constructor
        · intro q; cases q
        · rintro ⟨_, q⟩; exact absurd q hfin
      · rw [d1 x he]; exact h.finI x hx
    · obtain ⟨a, j, f, q', w', a1, a2, a3, a4, a5, a6⟩ := h.tr x hx hf hxs
      exact ⟨a, j, f, q', w', a1, a2, a3, by rw [s1 x (hfne x hf)]; exact a4, a5, a6⟩
theorem BFI.keep (h : BFI l on n s K D rk r Pr d stp fin T) (hn : n ≤ 64) (hS : SP l on n s K D rk) {i : Nat} {fw : Bool} {u v : Nat} {q w : Int} (hE : jaZ p0 l on i fw u v q w) (hno : ¬ (dAt d u < jdd ∧ dAt d u + w < dAt d v)) :
    BFI l on n s K D rk r (fun j f => Pr j f ∨ (j = i ∧ f = fw)) d stp fin T :=
  { h with pr := fun j f a b q' w' hE' hp ha hb hka hra => by
                  rcases hp with hp | ⟨rfl, rfl⟩
                  · exact h.pr j f a b q' w' hE' hp ha hb hka hra
                  · obtain ⟨g1, g2, g3⟩ := hE'.same hE
                    subst g1 g2 g3
                    have h1 := ((h.finI a ha).1 (h.rnd a ha hka hra)).2
                    have h2 := hS.bd a ha hka
                    have h3 : dAt d a < jdd := by unfold jdd; omega
                    have h4 : ¬ (dAt d a + w' < dAt d b) := fun q => hno ⟨h3, q⟩
                    omega }
theorem BFI.round (h : BFI l on n s K D rk r (fun i _ => i < l.length) d stp fin T) (hS : SP l on n s K D rk) : BFI l on n s K D rk (r + 1) (fun i _ => i < 0) d stp fin T :=
  { h with
    rnd := fun v hv hk hr => by
      by_cases hvs : v = s
      · subst hvs; exact h.sf
      · obtain ⟨u, i, fw, q, w, hu, hku, hE, hD, hlt⟩ := hS.par v hv hk hvs
        have h1 := h.pr i fw u v q w hE hE.1 hu hv hku (by omega)
        have h2 := h.lo v hv hk
        exact (h.finI v hv).2 ⟨hk, by omega⟩
    pr := fun i fw u v q w _ hp => absurd hp (by omega) }
structure CR (l : List Arc) (on : List Int) (n s : Nat) (K : Nat → Bool) (D : Nat → Int) (T : Nat → Int) (d stp : List Int) : Prop where
  sp : ∃ rk, SP l on n s K D rk
  dlen : d.length = n
  stlen : stp.length = n
  kd : ∀ v, v < n → K v = true → dAt d v = D v ∧ D v < jdd
  unk : ∀ v, v < n → K v = false → dAt d v = jdd
  tr : ∀ v, v < n → K v = true → v ≠ s → ∃ u i fw q w, u < n ∧ K u = true ∧ jaZ p0 l on i fw u v q w ∧ dAt stp v = encS i fw ∧ D v = D u + w ∧ T u < T v
  tb : ∀ v, v < n → K v = true → 0 ≤ T v ∧ T v ≤ n
theorem BFI.done (h : BFI l on n s K D rk r Pr d stp fin T) (hS : SP l on n s K D rk) (hn : n ≤ 64) (hr : r = n) : CR l on n s K D T d stp := by
  have hf : ∀ v, v < n → K v = true → dnB fin v = true := fun v hv hk => h.rnd v hv hk (by have := (hS.rkb v hv hk).2; omega)
  refine ⟨⟨rk, hS⟩, h.dlen, h.stlen, fun v hv hk => ⟨((h.finI v hv).1 (hf v hv hk)).2, by have := (hS.bd v hv hk).2; unfold jdd; omega⟩, h.unk, fun v hv hk hvs => ?_, fun v hv hk => by have := h.tb v hv (hf v hv hk); omega⟩
  obtain ⟨u, i, fw, q, w, a1, a2, a3, a4, a5, a6⟩ := h.tr v hv (hf v hv hk) hvs
  exact ⟨u, i, fw, q, w, a1, ((h.finI u a1).1 a2).1, a3, a4, a5, a6⟩
end
end Go.Proofs.YtgcokllbophkkaaGreat.Flo
namespace Go.Proofs.YtgcokllbophkkaaGreat.Flo
open Go Go.W
def jbr (l : List Arc) (on : List Int) (k : Int) : Step :=
 if 0 < k then ⟨(l.getD (k - 1).toNat default).f, ((k - 1).toNat : Nat), (l.getD (k - 1).toNat default).cap - on.getD (k - 1).toNat 0, true, true, 0⟩
 else ⟨(l.getD (-k - 1).toNat default).t, ((-k - 1).toNat : Nat), on.getD (-k - 1).toNat 0, false, true, 0⟩
theorem jfn {l : List Arc} {on : List Int} {i : Nat} {fw : Bool} {u v : Nat} {q w : Int} (h : jaZ p0 l on i fw u v q w) : jbr l on (encS i fw) = ⟨u, i, q, fw, true, 0⟩ := by
 obtain ⟨h1, h2, a, b⟩ := h
 cases fw with
 | true =>
  obtain ⟨g1, g2, g3, _⟩ := a rfl
  have e : encS i true = (i : Int) + 1 := rfl
  rw [e]
  unfold jbr
  rw [if_pos (by omega), show ((i : Int) + 1 - 1).toNat = i by omega]
  simp [h1, h2, g1, g3]
 | false =>
  obtain ⟨g1, g2, g3, _⟩ := b rfl
  have e : encS i false = -(i : Int) - 1 := rfl
  rw [e]
  unfold jbr
  rw [if_neg (by omega), show (-(-(i : Int) - 1) - 1).toNat = i by omega]
  simp [h1, h2, g1, g3]
def jiN (l : List Arc) (on stp : List Int) (n s : Nat) : List Nat → Nat → Prop
 | [], k => k = s
 | x :: xs, k => k = x ∧ k ≠ s ∧ k < n ∧ ∃ (p i : Nat) (fw : Bool) (q w : Int), p < n ∧ jaZ p0 l on i fw p k q w ∧ dAt stp k = encS i fw ∧ jiN l on stp n s xs p
theorem jld {l : List Arc} {on stp : List Int} {v : Nat} (h : v < stp.length) : (stp.map (jbr l on)).getD v default = jbr l on (dAt stp v) := by
 simp [dAt, h]
section
variable {l : List Arc} {on : List Int} {n s t : Nat} {K : Nat → Bool} {D : Nat → Int} {T : Nat → Int} {d stp : List Int}
theorem CR.path (h : CR l on n s K D T d stp) : ∀ (m : Nat) (v : Nat), v < n → K v = true → T v ≤ m → ∃ ks, ks.length ≤ m ∧ jiN l on stp n s ks v ∧ jfo T l on n s (stp.map (jbr l on)) ks v ∧ ∀ x ∈ ks, x < n ∧ K x = true ∧ x ≠ s
 | 0, v, hv, hk, hm => by
  by_cases hvs : v = s
  ·exact ⟨[], by simp, hvs, hvs, fun x hx => by cases hx⟩
  ·obtain ⟨p, _, _, _, _, hp, hkp, _, _, _, hdp⟩ := h.tr v hv hk hvs
   have := (h.tb p hp hkp).1; omega
 | m + 1, v, hv, hk, hm => by
  by_cases hvs : v = s
  ·exact ⟨[], by simp, hvs, hvs, fun x hx => by cases hx⟩
  ·obtain ⟨p, i, fw, q, w, hp, hkp, hE, hst, _, hdp⟩ := h.tr v hv hk hvs
   obtain ⟨ks, hl, hR, hP, ha⟩ := CR.path h m p hp hkp (by omega)
   refine ⟨v :: ks, by simp; omega, ⟨rfl, hvs, hv, p, i, fw, q, w, hp, hE, hst, hR⟩, ⟨rfl, hvs, hv, p, hp, hdp, ?_, hP⟩, fun x hx => ?_⟩
   ·rw [jld (by rw [h.stlen]; exact hv), hst, jfn hE]; exact hE.edge
   ·rcases List.mem_cons.1 hx with rfl | hx
    ·exact ⟨hv, hk, hvs⟩
    ·exact ha x hx
def jnj (D : Nat → Int) : Int → Int := fun u => D u.toNat
theorem CR.tight (h : CR l on n s K D T d stp) {ks : List Nat} (hks : ∀ x ∈ ks, x < n ∧ K x = true ∧ x ≠ s) {x : Nat} (hx : x ∈ ks) {i : Nat} (hi : i < l.length) (he : ((stp.map (jbr l on)).getD x default).arc.toNat = i) :
  ∃ (a b : Nat), a < n ∧ b < n ∧ K a = true ∧ K b = true ∧ l[i].f = a ∧ l[i].t = b ∧ l[i].cost + D a - D b = 0 := by
 obtain ⟨h1, h2, h3⟩ := hks x hx
 obtain ⟨u, j, fw, q, w, hu, hku, hE, hst, hD, _⟩ := h.tr x h1 h2 h3
 rw [jld (by rw [h.stlen]; exact h1), hst, jfn hE] at he
 have hij : j = i := by simpa using he
 subst hij
 obtain ⟨_, _, a, b⟩ := hE
 cases fw with
 | true =>
  obtain ⟨g1, g2, _, _, g5⟩ := a rfl
  rw [jkC] at g5
  exact ⟨u, x, hu, h1, hku, h2, g1, g2, by omega⟩
 | false =>
  obtain ⟨g1, g2, _, _, g5⟩ := b rfl
  rw [jkC] at g5
  exact ⟨x, u, h1, hu, h2, hku, g2, g1, by omega⟩
theorem CR.push_cost (h : CR l on n s K D T d stp) (hV : jaP l on) {ks : List Nat} (hP : jfo T l on n s (stp.map (jbr l on)) ks t) (hks : ∀ x ∈ ks, x < n ∧ K x = true ∧ x ≠ s) {M : Int} (hM : 0 ≤ M) (hr : ∀ x ∈ ks, M ≤ ((stp.map (jbr l on)).getD x default).room) :
  costOf l (ja0 (stp.map (jbr l on)) ks M on) = costOf l on + M * D t := by
 obtain ⟨hV2, hno⟩ := jdN hM (jnj D) ks t on hP hr hV fun _ _ => rfl
 have hlin : lin (rc (jnj D)) l (ja0 (stp.map (jbr l on)) ks M on) = lin (rc (jnj D)) l on := jgR _ l on _ hV.len hV2.len fun i h1 h2 h3 => by
  rcases jdI (stp.map (jbr l on)) M i ks on with he | ⟨x, hx, he⟩
  ·refine .inl ?_
   rw [List.getD_eq_getElem?_getD, List.getD_eq_getElem?_getD, List.getElem?_eq_getElem h3, List.getElem?_eq_getElem h2] at he
   simpa using he
  ·obtain ⟨a, b, _, _, _, _, hf, ht, hc⟩ := h.tight hks hx h1 he
   refine .inr ?_
   unfold rc jnj
   rw [hf, ht]; simpa using hc
 rw [jgI, jgI, hno] at hlin
 obtain ⟨_, hS⟩ := h.sp
 have e1 : jnj D (s : Int) = 0 := by unfold jnj; simpa using hS.src.2
 have e2 : jnj D (t : Int) = D t := by unfold jnj; simp
 rw [e1, e2, Int.zero_sub, Int.mul_neg] at hlin
 omega
theorem CR.push_opt {pots : List Int} {sts : List Step} {dist : List Int} {rk : Nat → Int} (hnr : jhO (potF pots) l on n s sts dist rk) (h : CR l on n s (kn sts) (fun v => dAt dist v + pots.getD v 0) T d stp) (ho : OptPot (potF pots) l on) (hn : jar n l) (hl : pots.length = n)
  (hlen : on.length = l.length) {ks : List Nat} (hks : ∀ x ∈ ks, x < n ∧ kn sts x = true ∧ x ≠ s) (M : Int) : OptPot (potF (jdb sts dist (jb2 sts dist n) pots)) l (ja0 (stp.map (jbr l on)) ks M on) := by
 intro i h1 h2
 have h2' : i < on.length := by rw [jbo] at h2; exact h2
 rcases jdI (stp.map (jbr l on)) M i ks on with he | ⟨x, hx, he⟩
 ·have e : (ja0 (stp.map (jbr l on)) ks M on)[i] = on[i] := by
   rw [List.getD_eq_getElem?_getD, List.getD_eq_getElem?_getD, List.getElem?_eq_getElem h2, List.getElem?_eq_getElem h2'] at he
   simpa using he
  rw [e]
  exact jiB hnr ho hn hl (jcC sts dist n).2.1 i h1 h2'
 ·obtain ⟨a, b, ha, hb, hka, hkb, hf, ht, hc⟩ := h.tight hks hx h1 he
  have e1 := jdD (sts := sts) (dist := dist) (F := jb2 sts dist n) (show a < pots.length by omega)
  have e2 := jdD (sts := sts) (dist := dist) (F := jb2 sts dist n) (show b < pots.length by omega)
  rw [if_pos hka] at e1
  rw [if_pos hkb] at e2
  have : rc (potF (jdb sts dist (jb2 sts dist n) pots)) l[i] = 0 := by
   unfold rc
   rw [hf, ht]
   simp only [potF, Int.toNat_natCast]
   rw [e1, e2]
   have hc : l[i].cost + (dAt dist a + pots.getD a 0) - (dAt dist b + pots.getD b 0) = 0 := hc
   omega
  rw [this]
  exact ⟨fun _ => Int.le_refl _, fun _ => Int.le_refl _⟩
theorem CR.resSet (h : CR l on n s K D T d stp) (hn : jar n l) (hlen : on.length = l.length) (hs : s < n) : jns l on n s K := by
 obtain ⟨rk, hS⟩ := h.sp
 refine ⟨hS.src.1, fun i h1 h2 => ?_, fun S hSs hc v hv hk => ?_⟩
 ·obtain ⟨a, b, ha, hb, hfa, htb, e1, e2⟩ := jdi (on := on) hn h1 h2 p0
  rw [hfa, htb]
  simp only [Int.toNat_natCast]
  exact ⟨fun hc hk => (hS.clo _ _ _ _ _ _ (e1 hc) ha hb hk).1, fun hc hk => (hS.clo _ _ _ _ _ _ (e2 hc) hb ha hk).1⟩
 ·have key : ∀ (m : Nat) (v : Nat), v < n → K v = true → rk v ≤ m → S v = true := by
   intro m
   induction m with
   | zero =>
    intro v hv hk hm
    by_cases hvs : v = s
    ·rw [hvs]; exact hSs
    ·obtain ⟨p, _, _, _, _, hp, hkp, _, _, hdp⟩ := hS.par v hv hk hvs
     have := (hS.rkb p hp hkp).1; omega
   | succ m ih =>
    intro v hv hk hm
    by_cases hvs : v = s
    ·rw [hvs]; exact hSs
    ·obtain ⟨p, i, fw, q, w, hp, hkp, hE, _, hdp⟩ := hS.par v hv hk hvs
     have hpS := ih p hp hkp (by omega)
     obtain ⟨g1, g2, a, b⟩ := hE
     obtain ⟨c1, c2⟩ := hc i g1 g2
     cases fw with
     | true =>
      obtain ⟨k1, k2, _, k4, _⟩ := a rfl
      rw [k1, k2] at c1
      exact c1 k4 (by simpa using hpS)
     | false =>
      obtain ⟨k1, k2, _, k4, _⟩ := b rfl
      rw [k1, k2] at c2
      exact c2 k4 (by simpa using hpS)
  exact key n v hv hk (hS.rkb v hv hk).2
theorem jlt (hn : jar n l) (hs : s < n) {amt : Int} (hf : IsFlow n l s t on amt) (hR : jns l on n s K) (ht : K t = false) : jcK n l s t amt :=
 ⟨⟨on, hf⟩, fun u => K u.toNat, by simpa using hR.src, by simpa using ht, ji8 hn hs hf hR.src ht hR.clo⟩
end
theorem ji2 {n s t : Nat} {l : List Arc} {on : List Int} {amt : Int} (hn : jar n l) (hs : s < n) (ht : t < n) (hst : s ≠ t) (hf : IsFlow n l s t on amt) (hle : ∀ on' amt', IsFlow n l s t on' amt' → amt' ≤ amt) : jcK n l s t amt := by
 have hsp := jcM (s := s) (on := on) hn hf.v.len hs
 cases hk : kn (jb6 l on n s) t with
 | false => exact jcE hn hs hsp hf hk
 | true =>
  obtain ⟨ks, _, hP⟩ := jfk hsp.tree n t ht hk (hsp.pos t ht hk).2
  obtain ⟨m1, m2, m3⟩ := jbz (jb6 l on n s) ks 1 (by omega) fun x hx => by obtain ⟨p, _, hE⟩ := hP.edge x hx; exact hE.room_pos
  have := hle _ _ (jcj (by omega) hst hP m3 hf)
  omega
end Go.Proofs.YtgcokllbophkkaaGreat.Flo
