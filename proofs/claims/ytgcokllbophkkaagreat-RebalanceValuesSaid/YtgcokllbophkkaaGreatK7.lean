/-
 Walks: the visitor of best; best.
-/
import Derived.Test.YtgcokllbophkkaaGreatI1
import Derived.Test.YtgcokllbophkkaaGreatPtr
import Derived.Laws.Bits128
import Derived.Test.YtgcokllbophkkaaGreatT10
import Derived.Test.YtgcokllbophkkaaGreatRows
import Derived.Test.YtgcokllbophkkaaGreatT22
import Derived.Test.YtgcokllbophkkaaGreatFacts
import Derived.Test.YtgcokllbophkkaaGreatB4
import Derived.Test.YtgcokllbophkkaaGreatRM3
import Derived.Test.YtgcokllbophkkaaGreatB1
set_option linter.all false
set_option maxHeartbeats 4000000
namespace Go.Proofs.YtgcokllbophkkaaGreat
open Go Go.W Go.RowKit
section
variable (n : Int) (l : List Edg) (ts : List q9) (ns : List z6) (hd rt : Int)
theorem jdh (s : Option (List Int)) (A : Option Addr) (c : Nat) : ((jcT n l ts ns hd rt s A c).all (·.oneCell')) = true := by cases s <;> rfl
theorem jdl (s s' : Option (List Int)) (A A' : Option Addr) (c c' : Nat) : jam (jcT n l ts ns hd rt s A c) 0 (jcT n l ts ns hd rt s' A' c') = jcT n l ts ns hd rt s' A' c' := by cases s <;> cases s' <;> rfl
theorem jd8 (s : Option (List Int)) (y : List Int) : bet (mvL ns) (jaS n l ts ns hd rt) s (some y) = if ja2 n l ts ns hd rt s y = true then some y else s := by
 cases s with
 | none => rfl
 | some x =>
  by_cases h : jcq (mvL ns) (jaS n l ts ns hd rt) x y
  ·rw [show ja2 n l ts ns hd rt (some x) y = true from decide_eq_true h, if_pos rfl]; exact if_pos h
  ·rw [if_neg (by simpa [ja2] using h)]; exact if_neg h
end
theorem ji7 (n hd rt : Int) (A B C : Option Addr) (l : List Edg) (ts : List q9) (ns : List z6) (ca cb cc g3 g4 g7 : Nat) (wB : World) (hz : ja3 wB A l) (ht : k8 4 k5 wB B ts) (hn : k8 2 j8 wB C ns) (hcc : ns.length ≤ cc)
  (h3 : jak wB g3 0 [I n, .slice A l.length ca, .slice B ts.length cb, .slice C ns.length cc, I hd]) (h4 : wB.cell? ⟨g4, 0, none⟩ = some (I rt)) (hm : ∀ x ∈ ns, -32 ≤ x.move ∧ x.move ≤ 32)
  (s : Option (List Int)) (Lv : List Blk) (w0 : World) (O : Option Addr) (o : List Int) (co : Nat) (hB : Below wB.heap.size wB w0) (hR : jno n l ts ns hd rt wB g7 s Lv) (H0 : SH w0 (Lv.map (·.g)) w0 Lv) (ho : k9 w0 O o) (hO : O = none → co = 0) (hlc : o.length ≤ co) (hol : o.length ≤ 16) :
  Calls Tryz.prog 106 ([Value.slice O o.length co] ++ [Value.pointer (some ⟨g3, 0, none⟩), Value.pointer (some ⟨g4, 0, none⟩), Value.pointer (some ⟨g7, 0, none⟩)]).toArray w0 fun e w' => ∃ Lv', e = .returned (.tuple #[]) ∧ jno n l ts ns hd rt wB g7 (jnv (mvL ns) (jaS n l ts ns hd rt) (jf5 n l ts ns hd rt) s o) Lv' ∧ SH w0 (Lv.map (·.g)) w' Lv' := by
 obtain ⟨hge, hxl, A', c', Lf, rfl, hOF⟩ := hR
 obtain ⟨S, hS⟩ : ∃ S, S = List.map (·.g) (⟨g7, 136, jcT n l ts ns hd rt s A' c'⟩ :: Lf) := ⟨_, rfl⟩
 rw [← hS] at H0 hge ⊢
 have hbel : ∀ {w : World} {L : List Blk}, SH w0 S w L → Below wB.heap.size wB w := fun {w L} H =>
  ⟨H.os.trans hB.os, H.tape.trans hB.tape, H.output.trans hB.output, Nat.le_trans hB.size H.size, fun k hk => (H.low k (Nat.lt_of_lt_of_le hk hB.size) (fun hm => by have := hge k hm; omega)).trans (hB.block k hk)⟩
 have H := H0
 have hW := Below.refl w0.heap.size w0
 simp only [List.cons_append, List.nil_append]
 refine Calls.ofWP Tryz.func106 rfl Tryz.results106 Tryz.ntmps106 rfl<|Y.qr<|Y.v (by (change Ev _ _ _ _ (Op.load 28 (Operand.tmp 1)) _; exact Ev.loadN [I n, .slice A l.length ca, .slice B ts.length cb, .slice C ns.length cc, I hd] (j6 rfl) (j4 rfl) rfl (jbJ hB h3)))<|Y.v (Y.c (cell_below hB h4) rfl)<|Y.sS rfl<|Y.v (Ev.build (jey rfl rfl))<|Y.c2 12 rfl (jeE n hd rt A B C O l ts ns o ca cb cc co w0 (hz.below hB) (ht.below hB) (hn.below hB) hcc ho (by unfold maxLen; omega) hlc) ?_
 rintro _ w ⟨rfl, hb⟩
 refine ⟨_, rfl, ?_⟩
 replace H := H.toBelow hb
 replace hW := hb
 clear hb
 refine Y.T rfl<|Y.G rfl<|Y.G rfl<|Y.b rfl<|Y.bz rfl<|Y.qr<|Y.a rfl<|Y.v (Ev.eql rfl rfl)<|Y.z ?_
 refine Y.i rfl (fun hc1 => ?_) fun hc1 => ?_
 ·have hfe : y7 n l ts ns hd rt o = 0 := by simpa using hc1
  have hF : jf5 n l ts ns hd rt o = true := decide_eq_true hfe
  have hin : ∀ i ∈ o, 0 ≤ i ∧ i < ns.length := by
   have h : y4 ts ns rt o = 0 := by
    unfold y7 at hfe
    split at hfe
    ·rename_i h1; exact absurd hfe h1
    ·split at hfe
     ·rename_i h1; exact absurd hfe h1
     ·rename_i h1; simpa using h1
   exact (jbX h).2.1
  have hvis : jnv (mvL ns) (jaS n l ts ns hd rt) (jf5 n l ts ns hd rt) s o = bet (mvL ns) (jaS n l ts ns hd rt) s (some o) := if_pos hF
  rw [hvis]
  have Hf := H
  replace H := H.drop Y.sn
  refine WP.rheldC [17, 18, 19, 20, 21, 22, 23, 24, 25] (fun _ w' => ∃ Lv', jno n l ts ns hd rt wB g7 (bet (mvL ns) (jaS n l ts ns hd rt) s (some o)) Lv' ∧ SH w0 S w' Lv') mixed H ?_ ?_
  ·clear H; intro w hbw2 H
   refine Y.t 1 H rfl rfl (fun w H => Ev.mvS rfl) ?_
   refine OPH.take 3 rfl rfl rfl rfl (by kernel_rfl) (by kernel_rfl) (by kernel_rfl) rfl (by exact H) (fun w H => (by refine Ev.loadN (b := g3) (o := 0) [I n, .slice A l.length ca, .slice B ts.length cb, .slice C ns.length cc, I hd] ?_ ?_ ?_ (jbJ (hbel H) h3); exact j6 rfl; exact j4 rfl; rfl)) ?_
   refine Y.t 4 H rfl rfl (fun w H => Ev.mvS rfl)<|Y.t 6 H rfl rfl (fun w H => Y.m rfl) ?_
   refine Y.A2 0 2 rfl rfl rfl ?_ ?_
   ·try replace Hf := Hf.toBelow hbw2
    refine Y.v (Ev.loadO 0 Hf rfl (j6 rfl) (j4 rfl) (jbh n l ts ns hd rt s A' c') rfl)<|Y.z <| ⟨(H), ?_⟩
    refine Y.A1 2 rfl rfl ?_
    try replace Hf := Hf.toBelow hbw2
    try replace hW := hW.trans (hbw2.mono hW.size)
    refine Y.c2 19 rfl (jhw O o co w (ho.below hW) (by omega) hO) ?_
    rintro _ w ⟨B', cb', Lo, rfl, hOo, Hc⟩
    refine ⟨_, rfl, ?_⟩
    replace hW := hW.trans (Hc.below.mono hW.size)
    replace Hf := SH.call (L1 := _ :: Lf) (Lv := []) (by simpa using Hf) Hc
    clear Hc
    have H := Hf.drop Y.sn
    refine Y.z <| ⟨(H), ?_⟩
    refine Y.A1 5 rfl rfl<|Y.c2 22 rfl (jex n hd A B C O l ts ns o ca cb cc co w (hn.below (hbel Hf)) hm (ho.below hW) (by omega) hin) ?_
    rintro _ w ⟨rfl, hb'⟩
    refine ⟨_, rfl, ?_⟩
    replace Hf := Hf.toBelow hb'
    replace hW := hW.trans (hb'.mono hW.size)
    clear hb'
    have H := Hf.drop Y.sn
    refine Y.z <| ⟨(H), ?_⟩
    refine Y.t 7 H rfl rfl (fun w H => Ev.build (jck rfl rfl rfl rfl))<|Y.A1 8 rfl rfl<|Y.c2 25 rfl (jgk n l ts ns hd rt s A' c' B' o cb' w (fun x hx => ⟨by subst hx; exact (OwnS.ones (R := _ :: Lo) hOF (Hf.perm (List.Perm.cons _ List.perm_append_comm))).1, hxl x hx⟩) (hOo.ones Hf).1 (by omega)) ?_
    rintro _ w ⟨rfl, hb'⟩
    refine ⟨_, rfl, ?_⟩
    replace Hf := Hf.toBelow hb'
    clear hb'
    have H := Hf.drop Y.sn
    refine Y.z <| ⟨(H), ?_⟩
    refine Y.A1 9 rfl rfl<|OPS.store (vs := jcT n l ts ns hd rt (bet (mvL ns) (jaS n l ts ns hd rt) s (some o)) (if ja2 n l ts ns hd rt s o = true then B' else A') (if ja2 n l ts ns hd rt s o = true then cb' else c')) 0 _ rfl rfl rfl (j4 rfl) rfl (cA rfl) (jbh n l ts ns hd rt _ _ _) (jdh n l ts ns hd rt _ _ _) Hf rfl (by rw [jbh]; exact Nat.le_refl _) ?_
    clear H Hf; intro w Hf
    have H := Hf.drop Y.sn
    replace Hf : ∃ Lv', jno n l ts ns hd rt wB g7 (bet (mvL ns) (jaS n l ts ns hd rt) s (some o)) Lv' ∧ SH w0 S w Lv' := by
     replace Hf : SH w0 S w (⟨g7, 136, jam (jcT n l ts ns hd rt s A' c') 0 (jcT n l ts ns hd rt (bet (mvL ns) (jaS n l ts ns hd rt) s (some o)) (if ja2 n l ts ns hd rt s o = true then B' else A') (if ja2 n l ts ns hd rt s o = true then cb' else c'))⟩ :: (Lf ++ Lo)) := Hf
     rw [jdl] at Hf
     have hgeH : ∀ {L : List Blk}, SH w0 S w L → ∀ g ∈ L.map (·.g), wB.heap.size ≤ g := fun {L} H g hg => by
      obtain ⟨b, hb, rfl⟩ := List.mem_map.1 hg
      rcases H.may b hb with h | h
      ·exact Nat.le_trans hB.size h
      ·exact hge _ h
     rw [jd8] at Hf ⊢
     by_cases htk : ja2 n l ts ns hd rt s o = true
     ·rw [if_pos htk, if_pos htk, if_pos htk] at Hf
      rw [if_pos htk]
      have H2 := Hf.drop (List.Sublist.cons_cons _ (List.sublist_append_right Lf Lo))
      exact ⟨_, ⟨hgeH H2, fun x hx => by cases hx; omega, B', cb', Lo, rfl, hOo⟩, H2⟩
     ·rw [if_neg htk, if_neg htk, if_neg htk] at Hf
      rw [if_neg htk]
      have H2 := Hf.drop (List.Sublist.cons_cons _ (List.sublist_append_left Lf Lo))
      exact ⟨_, ⟨hgeH H2, hxl, A', c', Lf, rfl, hOF⟩, H2⟩
    refine Y.z <| ⟨(H), ?_⟩
    refine Y.dn ?_
    exact ⟨Y.ag, Hf⟩
   ·try replace Hf := Hf.toBelow hbw2
    try replace hW := hW.trans (hbw2.mono hW.size)
    refine Y.c2 19 rfl (jhw O o co w (ho.below hW) (by omega) hO) ?_
    rintro _ w ⟨B', cb', Lo, rfl, hOo, Hc⟩
    refine ⟨_, rfl, ?_⟩
    replace hW := hW.trans (Hc.below.mono hW.size)
    replace Hf := SH.call (L1 := _ :: Lf) (Lv := []) (by simpa using Hf) Hc
    clear Hc
    have H := Hf.drop Y.sn
    refine Y.z <| ⟨(H), ?_⟩
    refine Y.A2 0 5 rfl rfl rfl ?_ ?_
    ·try replace Hf := Hf.toBelow hbw2
     refine Y.v (Ev.loadO 0 Hf rfl (j6 rfl) (j4 rfl) (jbh n l ts ns hd rt s A' c') rfl)<|Y.z <| ⟨(H), ?_⟩
     refine Y.A1 5 rfl rfl<|Y.c2 22 rfl (jex n hd A B C O l ts ns o ca cb cc co w (hn.below (hbel Hf)) hm (ho.below hW) (by omega) hin) ?_
     rintro _ w ⟨rfl, hb'⟩
     refine ⟨_, rfl, ?_⟩
     replace Hf := Hf.toBelow hb'
     replace hW := hW.trans (hb'.mono hW.size)
     clear hb'
     have H := Hf.drop Y.sn
     refine Y.z <| ⟨(H), ?_⟩
     refine Y.t 7 H rfl rfl (fun w H => Ev.build (jck rfl rfl rfl rfl))<|Y.A1 8 rfl rfl<|Y.c2 25 rfl (jgk n l ts ns hd rt s A' c' B' o cb' w (fun x hx => ⟨by subst hx; exact (OwnS.ones (R := _ :: Lo) hOF (Hf.perm (List.Perm.cons _ List.perm_append_comm))).1, hxl x hx⟩) (hOo.ones Hf).1 (by omega)) ?_
     rintro _ w ⟨rfl, hb'⟩
     refine ⟨_, rfl, ?_⟩
     replace Hf := Hf.toBelow hb'
     clear hb'
     have H := Hf.drop Y.sn
     refine Y.z <| ⟨(H), ?_⟩
     refine Y.A1 9 rfl rfl<|OPS.store (vs := jcT n l ts ns hd rt (bet (mvL ns) (jaS n l ts ns hd rt) s (some o)) (if ja2 n l ts ns hd rt s o = true then B' else A') (if ja2 n l ts ns hd rt s o = true then cb' else c')) 0 _ rfl rfl rfl (j4 rfl) rfl (cA rfl) (jbh n l ts ns hd rt _ _ _) (jdh n l ts ns hd rt _ _ _) Hf rfl (by rw [jbh]; exact Nat.le_refl _) ?_
     clear H Hf; intro w Hf
     have H := Hf.drop Y.sn
     replace Hf : ∃ Lv', jno n l ts ns hd rt wB g7 (bet (mvL ns) (jaS n l ts ns hd rt) s (some o)) Lv' ∧ SH w0 S w Lv' := by
      replace Hf : SH w0 S w (⟨g7, 136, jam (jcT n l ts ns hd rt s A' c') 0 (jcT n l ts ns hd rt (bet (mvL ns) (jaS n l ts ns hd rt) s (some o)) (if ja2 n l ts ns hd rt s o = true then B' else A') (if ja2 n l ts ns hd rt s o = true then cb' else c'))⟩ :: (Lf ++ Lo)) := Hf
      rw [jdl] at Hf
      have hgeH : ∀ {L : List Blk}, SH w0 S w L → ∀ g ∈ L.map (·.g), wB.heap.size ≤ g := fun {L} H g hg => by
       obtain ⟨b, hb, rfl⟩ := List.mem_map.1 hg
       rcases H.may b hb with h | h
       ·exact Nat.le_trans hB.size h
       ·exact hge _ h
      rw [jd8] at Hf ⊢
      by_cases htk : ja2 n l ts ns hd rt s o = true
      ·rw [if_pos htk, if_pos htk, if_pos htk] at Hf
       rw [if_pos htk]
       have H2 := Hf.drop (List.Sublist.cons_cons _ (List.sublist_append_right Lf Lo))
       exact ⟨_, ⟨hgeH H2, fun x hx => by cases hx; omega, B', cb', Lo, rfl, hOo⟩, H2⟩
      ·rw [if_neg htk, if_neg htk, if_neg htk] at Hf
       rw [if_neg htk]
       have H2 := Hf.drop (List.Sublist.cons_cons _ (List.sublist_append_left Lf Lo))
       exact ⟨_, ⟨hgeH H2, hxl, A', c', Lf, rfl, hOF⟩, H2⟩
     refine Y.z <| ⟨(H), ?_⟩
     refine Y.dn ?_
     exact ⟨Y.ag, Hf⟩
    ·refine Y.c2 22 rfl (jex n hd A B C O l ts ns o ca cb cc co w (hn.below (hbel Hf)) hm (ho.below hW) (by omega) hin) ?_
     rintro _ w ⟨rfl, hb'⟩
     refine ⟨_, rfl, ?_⟩
     replace Hf := Hf.toBelow hb'
     replace hW := hW.trans (hb'.mono hW.size)
     clear hb'
     have H := Hf.drop Y.sn
     refine Y.z <| ⟨(H), ?_⟩
     refine Y.t 7 H rfl rfl (fun w H => Ev.build (jck rfl rfl rfl rfl))<|Y.A1 0 rfl rfl ?_
     try replace Hf := Hf.toBelow hbw2
     refine Y.v (Ev.loadO 0 Hf rfl (j6 rfl) (j4 rfl) (jbh n l ts ns hd rt s A' c') rfl)<|Y.z <| ⟨(H), ?_⟩
     refine Y.A1 8 rfl rfl<|Y.c2 25 rfl (jgk n l ts ns hd rt s A' c' B' o cb' w (fun x hx => ⟨by subst hx; exact (OwnS.ones (R := _ :: Lo) hOF (Hf.perm (List.Perm.cons _ List.perm_append_comm))).1, hxl x hx⟩) (hOo.ones Hf).1 (by omega)) ?_
     rintro _ w ⟨rfl, hb'⟩
     refine ⟨_, rfl, ?_⟩
     replace Hf := Hf.toBelow hb'
     clear hb'
     have H := Hf.drop Y.sn
     refine Y.z <| ⟨(H), ?_⟩
     refine Y.A1 9 rfl rfl<|OPS.store (vs := jcT n l ts ns hd rt (bet (mvL ns) (jaS n l ts ns hd rt) s (some o)) (if ja2 n l ts ns hd rt s o = true then B' else A') (if ja2 n l ts ns hd rt s o = true then cb' else c')) 0 _ rfl rfl rfl (j4 rfl) rfl (cA rfl) (jbh n l ts ns hd rt _ _ _) (jdh n l ts ns hd rt _ _ _) Hf rfl (by rw [jbh]; exact Nat.le_refl _) ?_
     clear H Hf; intro w Hf
     have H := Hf.drop Y.sn
     replace Hf : ∃ Lv', jno n l ts ns hd rt wB g7 (bet (mvL ns) (jaS n l ts ns hd rt) s (some o)) Lv' ∧ SH w0 S w Lv' := by
      replace Hf : SH w0 S w (⟨g7, 136, jam (jcT n l ts ns hd rt s A' c') 0 (jcT n l ts ns hd rt (bet (mvL ns) (jaS n l ts ns hd rt) s (some o)) (if ja2 n l ts ns hd rt s o = true then B' else A') (if ja2 n l ts ns hd rt s o = true then cb' else c'))⟩ :: (Lf ++ Lo)) := Hf
      rw [jdl] at Hf
      have hgeH : ∀ {L : List Blk}, SH w0 S w L → ∀ g ∈ L.map (·.g), wB.heap.size ≤ g := fun {L} H g hg => by
       obtain ⟨b, hb, rfl⟩ := List.mem_map.1 hg
       rcases H.may b hb with h | h
       ·exact Nat.le_trans hB.size h
       ·exact hge _ h
      rw [jd8] at Hf ⊢
      by_cases htk : ja2 n l ts ns hd rt s o = true
      ·rw [if_pos htk, if_pos htk, if_pos htk] at Hf
       rw [if_pos htk]
       have H2 := Hf.drop (List.Sublist.cons_cons _ (List.sublist_append_right Lf Lo))
       exact ⟨_, ⟨hgeH H2, fun x hx => by cases hx; omega, B', cb', Lo, rfl, hOo⟩, H2⟩
      ·rw [if_neg htk, if_neg htk, if_neg htk] at Hf
       rw [if_neg htk]
       have H2 := Hf.drop (List.Sublist.cons_cons _ (List.sublist_append_left Lf Lo))
       exact ⟨_, ⟨hgeH H2, hxl, A', c', Lf, rfl, hOF⟩, H2⟩
     refine Y.z <| ⟨(H), ?_⟩
     refine Y.dn ?_
     exact ⟨Y.ag, Hf⟩
  clear H
  rintro u w ⟨Lv', hR, H⟩
  refine ⟨_, rfl, ?_⟩
  exact ⟨_, rfl, hR, H⟩
 have hfe : ¬ y7 n l ts ns hd rt o = 0 := by simpa using hc1
 have hvis : jnv (mvL ns) (jaS n l ts ns hd rt) (jf5 n l ts ns hd rt) s o = s := if_neg (by simpa [jf5] using hfe)
 rw [hvis]
 have hR : jno n l ts ns hd rt wB g7 s (⟨g7, 136, jcT n l ts ns hd rt s A' c'⟩ :: Lf) := ⟨by rw [← hS]; exact hge, hxl, A', c', Lf, rfl, hOF⟩
 refine Y.k <| ⟨_, rfl, ?_⟩
 exact ⟨_, rfl, hR, H⟩
end Go.Proofs.YtgcokllbophkkaaGreat
namespace Go.Proofs.YtgcokllbophkkaaGreat
open Go Go.W Go.RowKit
theorem jkv (n hd rt : Int) (A B C R : Option Addr) (l : List Edg) (ts : List q9) (ns : List z6) (rn : List Int) (ca cb cc cr : Nat) (w0 : World) (hz : ja3 w0 A l) (ht : k8 4 k5 w0 B ts) (hn : k8 2 j8 w0 C ns) (hcc : ns.length ≤ cc)
  (hm : ∀ x ∈ ns, -32 ≤ x.move ∧ x.move ≤ 32) (hns : ns.length ≤ 16) (hr : k9 w0 R rn) (hrl : rn.length ≤ 16) (hnd : rn.Nodup) (hin : ∀ i ∈ rn, 0 ≤ i ∧ i < ns.length) :
  Calls Tryz.prog 82 #[.agg #[I n, .slice A l.length ca, .slice B ts.length cb, .slice C ns.length cc, I hd], I rt, .slice R rn.length cr] w0 fun e w' => ∃ s A' c' Lf, e = .returned (.agg (jcT n l ts ns hd rt s A' c').toArray) ∧ jaQ (mvL ns) (jaS n l ts ns hd rt) (fun o => o.Perm rn ∧ y7 n l ts ns hd rt o = 0) s ∧ (∀ x, s = some x → x.length ≤ 1000) ∧ OwnF s A' c' Lf ∧ SH w0 [] w' Lf := by
 have H := SH.refl w0
 refine Calls.ofWPc Tryz.func82 rfl Tryz.results82 Tryz.ntmps82 rfl<|Y.qr<|Y.bx (cA rfl) H ?_
 clear H; intro g3 w H
 refine OPS.box rfl rfl rfl rfl (cI rfl) H ?_
 clear H; intro g4 w H
 refine Y.al H rfl rfl ?_
 clear H; intro g6 w H
 refine Y.z<|Y.q ?_
 have H1 := H
 generalize w = wB at *
 replace H := SH.refl wB
 refine Y.r<|Y.al H rfl rfl ?_
 clear H; intro g7 w H
 refine Y.z<|Y.qr<|Y.sS rfl<|Y.v (Ev.makeFunc) ?_
 refine Y.c2 10 rfl (jhW (σ := Option (List Int)) (jno n l ts ns hd rt wB g7) (jnv (mvL ns) (jaS n l ts ns hd rt) (jf5 n l ts ns hd rt)) 106 [Value.pointer (some ⟨g3, 0, none⟩), Value.pointer (some ⟨g4, 0, none⟩), Value.pointer (some ⟨g7, 0, none⟩)] wB rfl rn (fun s Lv w O o co h1 h2 h3 h4 h5 h6 h7 => ji7 n hd rt A B C l ts ns ca cb cc g3 g4 g7 wB (hz.sh H1) (ht.sh H1) (hn.sh H1) hcc (jas H1 2 rfl _ 0 (fun j hj => by rw [Nat.zero_add]; exact List.getElem?_eq_getElem hj)) (H1.ldL 1 rfl 0 rfl) hm s Lv w O o co h1 h2 h3 h4 h5 h6 (by rw [h7.length_eq]; exact hrl)) R cr w ((hr.sh H1).sh H) hrl hnd (fun x hx => by have := hin x hx; omega) none [⟨g7, 136, jcT n l ts ns hd rt none none 0⟩] ⟨H.fresh, (fun x hx => absurd hx (by simp)), none, 0, [], rfl, rfl⟩ (H.restart (List.Sublist.refl _)) H.below H.fresh) ?_
 rintro _ w ⟨V, Lv', rfl, hV, hR, Hc⟩
 refine ⟨_, rfl, ?_⟩
 have H2 := SH.call (L1 := [_, _, _]) (Lv := []) H1 H
 replace H := SH.call (L1 := [_, _, _]) (Lv := [_]) H2 Hc
 clear Hc H1 H2
 obtain ⟨_, hxl, A', c', Lf, rfl, hOF⟩ := hR
 have hbest := (jaQ.fold (m := mvL ns) (d := jaS n l ts ns hd rt) (F := jf5 n l ts ns hd rt) (V := V) jaQ.zero).congr (C' := fun o => o.Perm rn ∧ y7 n l ts ns hd rt o = 0) (fun x => by simp [hV, jf5])
 generalize V.foldl (jnv (mvL ns) (jaS n l ts ns hd rt) (jf5 n l ts ns hd rt)) none = s at *
 have hlen := jbh n l ts ns hd rt s A' c'
 simp only [List.cons_append, List.nil_append] at H
 refine Y.z<|Y.qr<|Y.v (Ev.loadO 3 H rfl (j6 rfl) (j4 rfl) hlen rfl)<|OPS.store (vs := jcT n l ts ns hd rt s A' c') 0 _ rfl rfl rfl (j4 rfl) rfl (cA rfl) hlen (jdh n l ts ns hd rt s A' c') H rfl (by simp) ?_
 clear H; intro w H
 replace H : SH w0 [] w (⟨g6, 136, jam (jcT n l ts ns hd rt none none 0) 0 (jcT n l ts ns hd rt s A' c')⟩ :: _) := H
 rw [jdl] at H
 refine Y.z ?_
 refine WP.ret ⟨[_], ⟨(by exact x6 0 H rfl (j6 rfl) (j4 rfl) (by assumption) rfl), trivial⟩, ?_⟩
 exact ⟨s, A', c', Lf, rfl, hbest, hxl, hOF, H.drop ((((List.Sublist.refl _).cons _).cons _).cons _ |>.cons _)⟩
end Go.Proofs.YtgcokllbophkkaaGreat
namespace Go.Proofs.YtgcokllbophkkaaGreat
open Go Go.W Go.RowKit
section
variable (n : Int) (l : List Edg) (ts : List q9) (ns : List z6) (hd rt : Int) (rn : List Int)
def SubP (o : List Int) : Prop := (o.Nodup ∧ ∀ i ∈ o, i ∈ rn) ∧ y7 n l ts ns hd rt o = 0
inductive jeT : Int → Int → List Int → Prop
 | no (h : jcp n l ts ns hd rt rn ≠ 0) : jeT (jcp n l ts ns hd rt rn) 0 []
 | ok (h : jcp n l ts ns hd rt rn = 0) (s : Option (List Int)) (hb : jaQ (mvL ns) (jaS n l ts ns hd rt) (SubP n l ts ns hd rt rn) s) : jeT 0 rt (s.getD [])
end
theorem jnt {n : Int} {l : List Edg} {ts : List q9} {ns : List z6} {hd rt : Int} {rn : List Int} (h : jcp n l ts ns hd rt rn = 0) :
  q7 n l ts ns hd = 0 ∧ y4 ts ns rt rn = 0 ∧ rn.length ≤ 6 := by
 unfold jcp at h
 split at h
 ·rename_i h1; exact absurd h h1
 ·rename_i h1
  split at h
  ·rename_i h2; exact absurd h h2
  ·rename_i h2
   split at h
   ·cases h
   ·exact ⟨Classical.not_not.1 h1, Classical.not_not.1 h2, by omega⟩
end Go.Proofs.YtgcokllbophkkaaGreat
namespace Go.Proofs.YtgcokllbophkkaaGreat
open Go Go.W Go.RowKit
section
variable {P : Program} {e : Env} {w : World} {ty t : TypeId} {x y : Operand}
theorem Ev.shl1 {t' : TypeId} {j : Nat} (hx : ev e x = .int .i64 1) (hy : ev e y = .int .i64 j) (h : j ≤ 62) : Ev P e w ty (.binOp .shl t x y t') (.int .i64 ((2 ^ j : Nat) : Int)) :=
 Ev.bin hx hy fun w => by
  have h1 : (2 : Nat) ^ j ≤ 4611686018427387904 := Nat.le_trans (Nat.pow_le_pow_right (by decide) h) (by decide)
  have h2 : ((2 ^ j : Nat) : Int) ≤ 4611686018427387904 := Int.ofNat_le.2 h1
  have h3 : (0 : Int) ≤ ((2 ^ j : Nat) : Int) := Int.natCast_nonneg _
  have h4 : (1 : Int) * 2 ^ ((j : Int)).toNat = ((2 ^ j : Nat) : Int) := by rw [Int.toNat_natCast, Int.one_mul, Int.natCast_pow]; rfl
  rw [binOp_shl, shift_shl _ _ _ _ (by omega) (show ((j : Nat) : Int) ≤ ((64 : Nat) : Int) by omega), h4, jcz (by unfold fits; omega)]
  rfl
theorem Ev.shrN {t' : TypeId} {a j : Nat} (hx : ev e x = .int .i64 a) (hy : ev e y = .int .i64 j) (h : j ≤ 62) : Ev P e w ty (.binOp .shr t x y t') (.int .i64 ((a / 2 ^ j : Nat) : Int)) :=
 Ev.bin hx hy fun w => by
  rw [binOp_shr, shift_shr _ _ _ _ (by omega) (show ((j : Nat) : Int) ≤ ((64 : Nat) : Int) by omega)]
  simp
theorem jmU (n : Int) : bits .and .i64 n 1 = n % 2 := by
 have h127 : (BitVec.ofInt 64 1).toNat = 2 ^ 1 - 1 := by decide
 have key : (BitVec.ofInt 64 n &&& BitVec.ofInt 64 1).toNat = (n % ((2 ^ 64 : Nat) : Int)).toNat % 2 ^ 1 := by
  rw [BitVec.toNat_and, BitVec.toNat_ofInt, h127, Nat.and_two_pow_sub_one_eq_mod]
 show IntKind.i64.wrap ((BitVec.ofInt 64 n &&& BitVec.ofInt 64 1).toNat : Nat) = n % 2
 rw [key, IntKind.wrap_i64]
 omega
theorem Ev.and1 {t' : TypeId} {a : Nat} (hx : ev e x = .int .i64 a) (hy : ev e y = .int .i64 1) : Ev P e w ty (.binOp .and t x y t') (.int .i64 ((a % 2 : Nat) : Int)) :=
 Ev.bin hx hy fun w => by
  rw [binOp_and, intBits_and, jmU]
  simp
end
theorem jjv (k : Nat) (i : Int) : jc5 k i = (decide (i < 0) || decide ((k : Int) ≤ i)) := by
 unfold jc5 inB
 rw [Bool.eq_iff_iff]; simp; omega
end Go.Proofs.YtgcokllbophkkaaGreat
namespace Go.Proofs.YtgcokllbophkkaaGreat
open Go Go.W Go.RowKit
theorem jjf {rn : List Int} {j i : Nat} (h : j < rn.length) : jcm (rn.take (j + 1)) i = jcm (rn.take j) i ++ if (i / 2 ^ j) % 2 = 1 then [rn[j]] else [] := by
 rw [List.take_succ_eq_append_getElem h, jfS, List.length_take, Nat.min_eq_left (by omega)]
section
variable (n : Int) (l : List Edg) (ts : List q9) (ns : List z6) (hd rt : Int) (rn : List Int)
def UpTo (j : Nat) (o : List Int) : Prop := ∃ i, i < j ∧ o.Perm (jcm rn i) ∧ y7 n l ts ns hd rt o = 0
theorem bet_or {m d : List Int → Int} (s s2 : Option (List Int)) : bet m d s s2 = s ∨ bet m d s s2 = s2 := by
 cases s with
 | none => exact .inr rfl
 | some x =>
  cases s2 with
  | none => exact .inl rfl
  | some y =>
   by_cases h : jcq m d x y
   ·exact .inr (if_pos h)
   ·exact .inl (if_neg h)
theorem jm3 {m d : List Int → Int} (s : Option (List Int)) : bet m d s none = s := by cases s <;> rfl
end
theorem jjd (n hd rt : Int) (A B C R : Option Addr) (l : List Edg) (ts : List q9) (ns : List z6) (rn : List Int) (ca cb cc cr : Nat) (w0 : World) (hz : ja3 w0 A l) (ht : k8 4 k5 w0 B ts) (hn : k8 2 j8 w0 C ns) (hcc : ns.length ≤ cc) (hr : k9 w0 R rn) (hrl : rn.length ≤ 1000) :
  Calls Tryz.prog 50 #[.agg #[I n, .slice A l.length ca, .slice B ts.length cb, .slice C ns.length cc, I hd], I rt, .slice R rn.length cr] w0 fun e w' => ∃ (er r0 : Int) (x : List Int) (X : Option Addr) (c : Nat) (Lf : List Blk), e = .returned (.tuple #[.agg #[I r0, .slice X x.length c], I er]) ∧ jeT n l ts ns hd rt rn er r0 x ∧ OwnS X c x.length (x.map I) 3 1 Lf ∧ SH w0 [] w' Lf := by
 have H := SH.refl w0
 refine Calls.ofWPc Tryz.func50 rfl Tryz.results50 Tryz.ntmps50 rfl<|Y.qr<|Y.bx (cA rfl) H ?_
 clear H; intro g3 w H
 refine Y.al H rfl rfl ?_
 clear H; intro g6 w H
 refine Y.bz rfl<|Y.qq<|Y.O H 1 rfl<|Y.a rfl<|Y.sS rfl<|Y.cl 18 rfl (jiX n hd rt A B C R l ts ns rn ca cb cc cr w (hz.sh H) (ht.sh H) (hn.sh H) hcc (hr.sh H) hrl) H ?_
 clear H; intro w H
 refine Y.bz rfl<|Y.qr<|Y.a rfl<|Y.V rfl<|Y.z ?_
 refine Y.i rfl (fun hc2 => ?_) fun hc2 => ?_
 ·refine Y.qr<|Y.v (Ev.build (bld_49_ (e := fun _ => .int .i64 0)))<|Y.a rfl<|Y.ss 0 H rfl (cA rfl) rfl ?_
  clear H; intro w H
  refine Y.bz rfl ?_
  refine WP.ret ⟨[_, _], ⟨(by exact x6 0 H rfl (j6 rfl) (j4 rfl) (by rfl) rfl), rfl, trivial⟩, ?_⟩
  have h : jcp n l ts ns hd rt rn ≠ 0 := by simpa using hc2
  exact ⟨_, _, [], none, 0, [], rfl, .no h, OwnS.nil, H.drop Y.sn⟩
 have h0 : jcp n l ts ns hd rt rn = 0 := by simpa using hc2
 obtain ⟨hN0, hR0, hl6⟩ := jnt h0
 obtain ⟨m, rfl, hN⟩ := jaO hN0
 obtain ⟨_, hin, hnd, _⟩ := jbX hR0
 have hm : ∀ x ∈ ns, -32 ≤ x.move ∧ x.move ≤ 32 := fun x hx => (hN.nd x hx).2.2
 have h64 : 2 ^ rn.length ≤ 64 := Nat.pow_le_pow_right (n := 2) (by decide) hl6
 refine Y.k<|Y.qr<|Y.al H rfl rfl ?_
 clear H; intro g9 w H
 refine Y.z<|Y.qq<|Y.sS rfl<|Y.E rfl<|Y.v (Ev.shl1 rfl rfl (by omega))<|Y.a rfl<|Y.z<|WP.block<|WP.loop [10, 11, 12, 13, 14, 26, 27, 28, 29, 30, 31, 32, 33, 34, 35, 36, 37, 38, 39, 40, 41, 42, 43, 44, 45, 46, 47, 48, 49, 50, 51, 52, 53, 54, 55] (fun k e w' => ∃ (j : Nat) (s : Option (List Int)) (A' : Option Addr) (c' : Nat) (Lf : List Blk), j + k = 2 ^ rn.length ∧ e 26 = I j ∧ jaQ (mvL ns) (jaS m l ts ns hd rt) (UpTo m l ts ns hd rt rn j) s ∧ (∀ x, s = some x → x.length ≤ 1000) ∧ OwnF s A' c' Lf ∧ SH w0 [] w' ([⟨g9, 136, jcT m l ts ns hd rt s A' c'⟩, ⟨g6, 49, [I 0, .slice none 0 0]⟩, ⟨g3, 28, [I m, .slice A l.length ca, .slice B ts.length cb, .slice C ns.length cc, I hd]⟩] ++ Lf)) ((2 ^ rn.length)) (⟨0, none, none, 0, [], by omega, rfl, (fun o => by rintro ⟨i, hi, _⟩; omega), (fun x hx => absurd hx (by simp)), rfl, H⟩) ?_
 clear H
 rintro k u w ⟨j, s, A', c', Lf, hk, h26, hbest, hxl, hOF, H⟩
 refine WP.know (t := 26) h26<|Y.qr<|Y.lt rfl<|Y.z<|Y.q ?_
 refine Y.i rfl (fun hc6 => ?_) fun hc6 => ?_
 ·have hlt : j < 2 ^ rn.length := by
   have h : (j : Int) < ((2 ^ rn.length : Nat) : Int) := by simpa using hc6
   omega
  refine Y.k<|Y.q<|WP.block<|Y.qr<|Y.a rfl<|Y.bz rfl<|Y.qr<|Y.aS rfl<|Y.z<|Y.qq<|Y.sS rfl<|Y.E rfl<|Y.a rfl<|Y.z<|WP.block<|WP.loop [11, 12, 13, 31, 32, 33, 34, 35, 36, 37, 38, 39, 40, 41, 42, 43, 44, 45] (fun k e w' => ∃ (i : Nat) (X : Option Addr) (cx : Nat) (Lx : List Blk), i + k = rn.length ∧ e 31 = I i ∧ e 11 = .slice X (jcm (rn.take i) j).length cx ∧ OwnS X cx (jcm (rn.take i) j).length ((jcm (rn.take i) j).map I) 3 1 Lx ∧ SH w0 [] w' (([⟨g9, 136, jcT m l ts ns hd rt s A' c'⟩, ⟨g6, 49, [I 0, .slice none 0 0]⟩, ⟨g3, 28, [I m, .slice A l.length ca, .slice B ts.length cb, .slice C ns.length cc, I hd]⟩] ++ Lf) ++ Lx)) (rn.length) (⟨0, none, 0, [], by omega, rfl, rfl, OwnS.nil, by rw [List.append_nil]; exact H⟩) ?_
  clear H
  rintro k2 u2 w ⟨i, X, cx, Lx, hk2, h31, h11, hOX, H⟩
  refine WP.know (t := 31) h31 (WP.know (t := 11) h11 ?_)
  refine Y.qr<|Y.lt rfl<|Y.z<|Y.q ?_
  refine Y.i rfl (fun hc10 => ?_) fun hc10 => ?_
  ·have hil : i < rn.length := by simpa using hc10
   obtain ⟨br, orr, rfl, hx⟩ := hr i hil
   have hpk := jjf (i := j) hil
   have hpl : (jcm (rn.take i) j).length ≤ i := by
    have := (jdP (rn.take i) j).length_le
    rw [List.length_take] at this; omega
   refine Y.k<|Y.q<|WP.block<|Y.qr<|Y.a rfl<|Y.I rfl<|Y.v (Y.c (H.ld0 (by assumption)) rfl) ?_
   refine Y.b rfl<|Y.bz rfl<|Y.qr<|Y.a rfl<|Y.a rfl<|Y.v (Ev.shrN rfl rfl (by omega))<|Y.v (Ev.and1 rfl rfl)<|Y.v (Ev.eql rfl rfl)<|Y.z ?_
   refine Y.i rfl (fun hc12 => ?_) fun hc12 => ?_
   ·have hbit : (j / 2 ^ i) % 2 = 1 := by
     have h : (((j / 2 ^ i) % 2 : Nat) : Int) = 1 := by simpa using hc12
     omega
    rw [if_pos hbit] at hpk
    refine Y.r<|Y.sS rfl<|Y.a rfl<|OPS.buildSlice rfl rfl rfl rfl (jaJ rfl) H ?_
    clear H; intro g43 w H
    refine OPS.append (m := 1) (news := [I rn[i]]) (R := ⟨g43, 3, [I rn[i]]⟩ :: ([⟨g9, 136, jcT m l ts ns hd rt s A' c'⟩, ⟨g6, 49, [I 0, .slice none 0 0]⟩, ⟨g3, 28, [I m, .slice A l.length ca, .slice B ts.length cb, .slice C ns.length cc, I hd]⟩] ++ Lf)) rfl rfl rfl rfl rfl (z8 rfl) rfl rfl hOX rfl (y0 H 0 rfl) rfl (by omega) (by unfold maxLen; omega) H (List.Perm.refl _) ?_
    clear H hOX; intro X cx Lx w hOX H
    replace H := H.drop Y.sc
    refine Y.aS rfl<|Y.z<|Y.r<|Y.P rfl<|Y.a rfl<|Y.z ?_
    first
     | exact ⟨Y.ag, k2 - 1, by omega, i + 1, X, cx, Lx, by omega, rfl, by rw [hpk, List.length_append]; rfl, by rw [hpk, List.length_append, List.map_append]; exact hOX, H⟩
     | exact ⟨Y.ag, k2 - 1, by omega, i + 1, X, cx, Lx, by omega, rfl, by rw [hpk]; rfl, by rw [hpk]; exact hOX, H⟩
   have hbit : ¬ (j / 2 ^ i) % 2 = 1 := by
    have h : ¬ (((j / 2 ^ i) % 2 : Nat) : Int) = 1 := by simpa using hc12
    omega
   rw [if_neg hbit, List.append_nil] at hpk
   refine Y.k<|Y.r<|Y.P rfl<|Y.a rfl<|Y.z ?_
   first
    | exact ⟨Y.ag, k2 - 1, by omega, i + 1, X, cx, Lx, by omega, rfl, by rw [hpk, List.length_append]; rfl, by rw [hpk, List.length_append, List.map_append]; exact hOX, H⟩
    | exact ⟨Y.ag, k2 - 1, by omega, i + 1, X, cx, Lx, by omega, rfl, by rw [hpk]; rfl, by rw [hpk]; exact hOX, H⟩
  have hi : i = rn.length := by simp at hc10; omega
  subst hi
  rw [List.take_length] at hOX
  rw [List.take_length]
  have hys := jdP rn j
  have hyl := hys.length_le
  have hynd : (jcm rn j).Nodup := hnd.sublist hys
  have hyin : ∀ i ∈ jcm rn j, 0 ≤ i ∧ i < ns.length := fun i hi => hin i (hys.subset hi)
  refine WP.exit<|XB.hit<|Y.qr<|Y.O H 2 rfl<|Y.a rfl<|Y.sS rfl<|Y.c2 49 rfl (jkv m hd rt A B C X l ts ns (jcm rn j) ca cb cc cx w (hz.sh H) (ht.sh H) (hn.sh H) hcc hm hN.nl (hOX.ones H).1 (by omega) hynd hyin) ?_
  rintro _ w ⟨s2, A2, c2, L2, rfl, hb2, hxl2, hOF2, Hc⟩
  refine ⟨_, rfl, ?_⟩
  replace H := SH.call (L1 := _) (Lv := []) (by rw [List.append_nil]; exact H.drop (List.sublist_append_left _ Lx)) Hc
  clear Hc
  have hlen2 := jbh m l ts ns hd rt s2 A2 c2
  have hok2 : (jcT m l ts ns hd rt s2 A2 c2)[3]? = some (.bool s2.isSome) := by cases s2 <;> rfl
  have hb3 : jaQ (mvL ns) (jaS m l ts ns hd rt) (UpTo m l ts ns hd rt rn (j + 1)) (bet (mvL ns) (jaS m l ts ns hd rt) s s2) := (hbest.union hb2).congr fun o => by
   constructor
   ·rintro (⟨i, h1, h2⟩ | h)
    ·exact ⟨i, by omega, h2⟩
    ·exact ⟨j, by omega, h⟩
   ·rintro ⟨i, h1, h2⟩
    by_cases h : i = j
    ·subst h; exact .inr h2
    ·exact .inl ⟨i, by omega, h2⟩
  have hxl3 : ∀ x, bet (mvL ns) (jaS m l ts ns hd rt) s s2 = some x → x.length ≤ 1000 := fun x hx => by
   rcases bet_or (m := mvL ns) (d := jaS m l ts ns hd rt) s s2 with h | h
   ·exact hxl x (h ▸ hx)
   ·exact hxl2 x (h ▸ hx)
  refine Y.al H rfl rfl ?_
  clear H; intro g14 w H
  refine OPS.store (vs := jcT m l ts ns hd rt s2 A2 c2) 0 _ rfl rfl rfl (j4 rfl) rfl (cA rfl) hlen2 (jdh m l ts ns hd rt s2 A2 c2) H rfl (by simp) ?_
  clear H; intro w H
  replace H : SH w0 [] w (⟨g14, 136, jam (jcT m l ts ns hd rt none none 0) 0 (jcT m l ts ns hd rt s2 A2 c2)⟩ :: _) := H
  rw [jdl] at H
  refine Y.z<|Y.qr<|Y.F rfl<|Y.v (Y.c (H.ldL 0 rfl 3 hok2) rfl)<|Y.z ?_
  refine Y.i rfl (fun hc16 => ?_) fun hc16 => ?_
  ·obtain ⟨y, rfl⟩ : ∃ y, s2 = some y := Option.isSome_iff_exists.1 (by simpa using hc16)
   refine Y.r<|Y.v (Ev.loadO 1 H rfl (j6 rfl) (j4 rfl) (jbh m l ts ns hd rt s A' c') rfl)<|Y.v (Ev.loadO 0 H rfl (j6 rfl) (j4 rfl) hlen2 rfl)<|Y.cl 54 rfl (jgk m l ts ns hd rt s A' c' A2 y c2 w (fun x hx => ⟨by subst hx; exact (OwnS.ones hOF (H.drop ((List.sublist_append_left _ L2).trans Y.sc))).1, hxl x hx⟩) (OwnS.ones hOF2 (Y.d1 H)).1 (hxl2 y rfl)) H ?_
   clear H; intro w H
   refine OPS.store (vs := jcT m l ts ns hd rt (bet (mvL ns) (jaS m l ts ns hd rt) s (some y)) (if ja2 m l ts ns hd rt s y = true then A2 else A') (if ja2 m l ts ns hd rt s y = true then c2 else c')) 1 _ rfl rfl rfl (j4 rfl) rfl (cA rfl) (jbh m l ts ns hd rt _ _ _) (jdh m l ts ns hd rt _ _ _) H rfl (by rw [jbh]; exact Nat.le_refl _) ?_
   clear H; intro w H
   replace H : SH w0 [] w (⟨g14, 136, _⟩ :: ⟨g9, 136, jam (jcT m l ts ns hd rt s A' c') 0 (jcT m l ts ns hd rt (bet (mvL ns) (jaS m l ts ns hd rt) s (some y)) (if ja2 m l ts ns hd rt s y = true then A2 else A') (if ja2 m l ts ns hd rt s y = true then c2 else c'))⟩ :: ⟨g6, 49, [I 0, .slice none 0 0]⟩ :: ⟨g3, 28, [I m, .slice A l.length ca, .slice B ts.length cb, .slice C ns.length cc, I hd]⟩ :: (Lf ++ L2)) := H
   rw [jdl] at H
   replace H := H.drop Y.sc
   obtain ⟨A3, c3, L3, hO3, H3⟩ : ∃ A3 c3 L3, OwnF (bet (mvL ns) (jaS m l ts ns hd rt) s (some y)) A3 c3 L3 ∧ SH w0 [] w ([⟨g9, 136, jcT m l ts ns hd rt (bet (mvL ns) (jaS m l ts ns hd rt) s (some y)) A3 c3⟩, ⟨g6, 49, [I 0, .slice none 0 0]⟩, ⟨g3, 28, [I m, .slice A l.length ca, .slice B ts.length cb, .slice C ns.length cc, I hd]⟩] ++ L3) := by
    rw [jd8] at H ⊢
    by_cases htk : ja2 m l ts ns hd rt s y = true
    ·rw [if_pos htk, if_pos htk, if_pos htk] at H
     rw [if_pos htk]
     exact ⟨A2, c2, L2, hOF2, H.drop ((((List.sublist_append_right Lf L2).cons_cons _).cons_cons _).cons_cons _)⟩
    ·rw [if_neg htk, if_neg htk, if_neg htk] at H
     rw [if_neg htk]
     exact ⟨A', c', Lf, hOF, H.drop ((((List.sublist_append_left Lf L2).cons_cons _).cons_cons _).cons_cons _)⟩
   refine Y.z<|Y.r<|Y.P rfl<|Y.a rfl<|Y.z ?_
   exact ⟨Y.ag, k - 1, by omega, j + 1, _, A3, c3, L3, by omega, rfl, hb3, hxl3, hO3, H3⟩
  obtain rfl : s2 = none := by simpa using hc16
  obtain ⟨A3, c3, L3, hO3, H3⟩ : ∃ A3 c3 L3, OwnF (bet (mvL ns) (jaS m l ts ns hd rt) s none) A3 c3 L3 ∧ SH w0 [] w ([⟨g9, 136, jcT m l ts ns hd rt (bet (mvL ns) (jaS m l ts ns hd rt) s none) A3 c3⟩, ⟨g6, 49, [I 0, .slice none 0 0]⟩, ⟨g3, 28, [I m, .slice A l.length ca, .slice B ts.length cb, .slice C ns.length cc, I hd]⟩] ++ L3) := by
   rw [jm3]
   exact ⟨A', c', Lf, hOF, H.drop ((List.sublist_append_left _ L2).trans Y.sc)⟩
  refine Y.k<|Y.r<|Y.P rfl<|Y.a rfl<|Y.z ?_
  exact ⟨Y.ag, k - 1, by omega, j + 1, _, A3, c3, L3, by omega, rfl, hb3, hxl3, hO3, H3⟩
 have hj : j = 2 ^ rn.length := by
  have h : ¬ (j : Int) < ((2 ^ rn.length : Nat) : Int) := by simpa using hc6
  omega
 subst hj
 have hbest' : jaQ (mvL ns) (jaS m l ts ns hd rt) (SubP m l ts ns hd rt rn) s := hbest.congr fun o => by
  constructor
  ·rintro ⟨i, h1, h2, h3⟩
   have hs := jdP rn i
   exact ⟨⟨h2.nodup_iff.2 (hnd.sublist hs), fun x hx => hs.subset (h2.mem_iff.1 hx)⟩, h3⟩
  ·rintro ⟨⟨h1, h2⟩, h3⟩
   obtain ⟨i, h4, h5⟩ := part_of hnd h1 h2
   exact ⟨i, h4, h5, h3⟩
 obtain ⟨x, X, c, hxe, hfd, hOx⟩ : ∃ (x : List Int) (X : Option Addr) (c : Nat), s.getD [] = x ∧ (jcT m l ts ns hd rt s A' c')[0]? = some (.slice X x.length c) ∧ OwnS X c x.length (x.map I) 3 1 Lf := by
  cases s with
  | none => obtain rfl : Lf = [] := hOF; exact ⟨[], none, 0, rfl, rfl, OwnS.nil⟩
  | some x => exact ⟨x, A', c', rfl, rfl, hOF⟩
 refine WP.exit<|XB.hit<|Y.qr<|Y.a rfl<|Y.F rfl<|Y.v (Y.c (H.ldL 0 rfl 0 hfd) rfl)<|Y.v (Ev.build (jey rfl rfl))<|Y.ss 1 H rfl (cA rfl) rfl ?_
 clear H; intro w H
 refine Y.bz rfl ?_
 refine WP.ret ⟨[_, _], ⟨(by exact x6 1 H rfl (j6 rfl) (j4 rfl) (by rfl) rfl), rfl, trivial⟩, ?_⟩
 exact ⟨_, _, x, X, c, Lf, rfl, by rw [← hxe]; exact .ok h0 s hbest', hOx, H.drop ((((List.Sublist.refl _).cons _).cons _).cons _)⟩
end Go.Proofs.YtgcokllbophkkaaGreat
namespace Go.Proofs.YtgcokllbophkkaaGreat
open Go Go.W Go.RowKit
theorem jkr {v : Value} {b c : Bool} (h : v = .bool b) (hb : b = c) : Ending.returned v = .returned (.bool c) := by rw [h, hb]
end Go.Proofs.YtgcokllbophkkaaGreat
namespace Go.Proofs.YtgcokllbophkkaaGreat
open Go Go.W Go.RowKit
section
variable {n : Int} {l : List Edg} {ts : List q9} {ns : List z6} {hd rt : Int} {rn : List Int}
structure AskOk (m : Nat) (l : List Edg) (ts : List q9) (ns : List z6) (hd rt : Int) (rn : List Int) : Prop where
 night : q7 m l ts ns hd = 0
 ok : jbU m l ts ns hd
 tr : 0 ≤ rt ∧ rt < ts.length
 inr : ∀ i ∈ rn, 0 ≤ i ∧ i < ns.length
 nd : rn.Nodup
 len : rn.length ≤ 6
 pos : ∀ i ∈ rn, 0 < jdR (jaw ns i).move
theorem jm8 (h : jcp n l ts ns hd rt rn = 0) : ∃ m : Nat, n = m ∧ AskOk m l ts ns hd rt rn := by
 obtain ⟨h1, h2, h3⟩ := jnt h
 obtain ⟨m, rfl, hN⟩ := jaO h1
 obtain ⟨h4, h5, h6, _⟩ := jbX h2
 refine ⟨m, rfl, h1, hN, h4, h5, h6, h3, fun i hi => ?_⟩
 obtain ⟨h7, h8⟩ := h5 i hi
 obtain ⟨q, rfl⟩ := Int.eq_ofNat_of_zero_le h7
 have hq : q < ns.length := by omega
 rw [jcY hq]
 have := (hN.nd ns[q] (List.getElem_mem hq)).2.1
 unfold jdR; split <;> omega
theorem AskOk.nil {m : Nat} (h : AskOk m l ts ns hd rt rn) : y7 m l ts ns hd rt [] = 0 := by
 obtain ⟨q, rfl⟩ := Int.eq_ofNat_of_zero_le h.tr.1
 have hq : q < ts.length := by have := h.tr.2; omega
 have htr := h.ok.tr ts[q] (List.getElem_mem hq)
 have hgt : ts.getD (q : Int).toNat default = ts[q] := by simp [hq]
 have hr : y4 ts ns q [] = 0 := by
  unfold y4
  rw [if_neg (by simp [jc5, inB]; omega), if_neg (by simp [jaA])]
 obtain ⟨d, hd'⟩ := Int.eq_ofNat_of_zero_le htr.1.1
 have hdm : d < m := by omega
 have h0 : x9 m l d d = 0 := by
  obtain ⟨K, D, hR⟩ := jd0 h.ok.road hdm
  rw [jb5 h.ok.road hR hdm, if_pos hR.src.1, hR.src.2]
 rw [y7, if_neg (by rw [h.night]; decide), if_neg (by rw [hr]; decide), hgt]
 unfold jg8
 rw [hgt]
 simp only [goE, goT, ne_eq, not_true_eq_false, if_false, y3, jce, jac, hd', Int.toNat_natCast, h0]
 rw [if_neg (by omega), if_neg (by omega)]
end
end Go.Proofs.YtgcokllbophkkaaGreat
namespace Go.Proofs.YtgcokllbophkkaaGreat
open Go Go.W Go.RowKit
open Go.ChangeShapes Go.WideShapes Go.ChangeAt
theorem own : ownKnob Tryz.prog.godebug = none := by kernel_rfl
theorem laidOut : laidOutB Tryz.prog = true := by kernel_rfl
section
variable {H : Type} {enc : TypeId × Value → H} {w : World} {base : Nat} {spare : Nat → Bool} {held : Bool}
theorem jew : Rd enc Tryz.prog w base spare held 3 (fun n : Int => [I n]) (fun n => (Lit.int .i64 n).wf = true) := Rd.int Tryz.underlying3
theorem jnl : Rd enc Tryz.prog w base spare held 32 (jbA (α := Int)) (SlG w 1 (fun n => [I n]) (fun n => (Lit.int .i64 n).wf = true)) := Rd.slice Tryz.underlying32 (by kernel_rfl) (by decide) jew
theorem rdEdge3 : Rd enc Tryz.prog w base spare held 85 (fun p : Int × Int × Int × Unit => [I p.1] ++ ([I p.2.1] ++ ([I p.2.2.1] ++ [])))
  (fun p => (Lit.int .i64 p.1).wf = true ∧ (Lit.int .i64 p.2.1).wf = true ∧ (Lit.int .i64 p.2.2.1).wf = true ∧ True) := by
 refine Rd.struct (tot := 3) Tryz.underlying85 (by kernel_rfl) ?_
 exact RdF.cons (sz := 1) jew rfl rfl (by kernel_rfl) (RdF.cons (sz := 1) jew rfl rfl (by kernel_rfl) (RdF.cons (sz := 1) jew rfl rfl (by kernel_rfl) RdF.nil))
theorem rdEdge : Rd enc Tryz.prog w base spare held 85 jah (fun _ => True) := rdEdge3.conv (fun p => ⟨p.1, p.2.1, p.2.2.1⟩) (fun _ => rfl) (fun _ _ => trivial)
theorem rdEdges : Rd enc Tryz.prog w base spare held 22 (jbA (α := Edg)) (SlG w 3 jah (fun _ => True)) := Rd.slice Tryz.underlying22 (by kernel_rfl) (by decide) rdEdge
theorem rdRoad : Rd enc Tryz.prog w base spare held 24 (fun p : Int × SlA Edg × Unit => [I p.1] ++ (jbA p.2.1 ++ [])) (fun p => (Lit.int .i64 p.1).wf = true ∧ SlG w 3 jah (fun _ => True) p.2.1 ∧ True) := by
 refine Rd.struct (tot := 2) Tryz.underlying24 (by kernel_rfl) ?_
 exact RdF.cons (sz := 1) jew rfl rfl (by kernel_rfl) (RdF.cons (sz := 1) rdEdges rfl rfl (by kernel_rfl) RdF.nil)
theorem rdWin : Rd enc Tryz.prog w base spare held 79 (fun p : Int × Int × Unit => [I p.1] ++ ([I p.2.1] ++ [])) (fun p => (Lit.int .i64 p.1).wf = true ∧ (Lit.int .i64 p.2.1).wf = true ∧ True) := by
 refine Rd.struct (tot := 2) Tryz.underlying79 (by kernel_rfl) ?_
 exact RdF.cons (sz := 1) jew rfl rfl (by kernel_rfl) (RdF.cons (sz := 1) jew rfl rfl (by kernel_rfl) RdF.nil)
theorem jlO : Rd enc Tryz.prog w base spare held 81 (fun p : Int × Int × (Int × Int × Unit) × Unit => [I p.1] ++ ([I p.2.1] ++ (([I p.2.2.1.1] ++ ([I p.2.2.1.2.1] ++ [])) ++ [])))
  (fun p => (Lit.int .i64 p.1).wf = true ∧ (Lit.int .i64 p.2.1).wf = true ∧ ((Lit.int .i64 p.2.2.1.1).wf = true ∧ (Lit.int .i64 p.2.2.1.2.1).wf = true ∧ True) ∧ True) := by
 refine Rd.struct (tot := 4) Tryz.underlying81 (by kernel_rfl) ?_
 exact RdF.cons (sz := 1) jew rfl rfl (by kernel_rfl) (RdF.cons (sz := 1) jew rfl rfl (by kernel_rfl) (RdF.cons (sz := 2) rdWin rfl rfl (by kernel_rfl) RdF.nil))
theorem rdTruck : Rd enc Tryz.prog w base spare held 81 k5 (fun _ => True) := jlO.conv (fun p => ⟨p.1, p.2.1, p.2.2.1.1, p.2.2.1.2.1⟩) (fun _ => rfl) (fun _ _ => trivial)
theorem jmB : Rd enc Tryz.prog w base spare held 25 (jbA (α := q9)) (SlG w 4 k5 (fun _ => True)) := Rd.slice Tryz.underlying25 (by kernel_rfl) (by decide) rdTruck
theorem rdNeed2 : Rd enc Tryz.prog w base spare held 68 (fun p : Int × Int × Unit => [I p.1] ++ ([I p.2.1] ++ [])) (fun p => (Lit.int .i64 p.1).wf = true ∧ (Lit.int .i64 p.2.1).wf = true ∧ True) := by
 refine Rd.struct (tot := 2) Tryz.underlying68 (by kernel_rfl) ?_
 exact RdF.cons (sz := 1) jew rfl rfl (by kernel_rfl) (RdF.cons (sz := 1) jew rfl rfl (by kernel_rfl) RdF.nil)
theorem rdNeed : Rd enc Tryz.prog w base spare held 68 j8 (fun _ => True) := rdNeed2.conv (fun p => ⟨p.1, p.2.1⟩) (fun _ => rfl) (fun _ _ => trivial)
theorem rdNeeds : Rd enc Tryz.prog w base spare held 26 (jbA (α := z6)) (SlG w 2 j8 (fun _ => True)) := Rd.slice Tryz.underlying26 (by kernel_rfl) (by decide) rdNeed
theorem jmZ : Rd enc Tryz.prog w base spare held 28 (fun p : (Int × SlA Edg × Unit) × SlA q9 × SlA z6 × Int × Unit => ([I p.1.1] ++ (jbA p.1.2.1 ++ [])) ++ (jbA p.2.1 ++ (jbA p.2.2.1 ++ ([I p.2.2.2.1] ++ []))))
  (fun p => ((Lit.int .i64 p.1.1).wf = true ∧ SlG w 3 jah (fun _ => True) p.1.2.1 ∧ True) ∧ SlG w 4 k5 (fun _ => True) p.2.1 ∧ SlG w 2 j8 (fun _ => True) p.2.2.1 ∧ (Lit.int .i64 p.2.2.2.1).wf = true ∧ True) := by
 refine Rd.struct (tot := 5) Tryz.underlying28 (by kernel_rfl) ?_
 exact RdF.cons (sz := 2) rdRoad rfl rfl (by kernel_rfl) (RdF.cons (sz := 1) jmB rfl rfl (by kernel_rfl) (RdF.cons (sz := 1) rdNeeds rfl rfl (by kernel_rfl) (RdF.cons (sz := 1) jew rfl rfl (by kernel_rfl) RdF.nil)))
structure Ngt where
 n : Int
 E : SlA Edg
 T : SlA q9
 N : SlA z6
 hd : Int
def jmq (g : Ngt) : List Value := [I g.n, .slice g.E.A g.E.l.length g.E.cap, .slice g.T.A g.T.l.length g.T.cap, .slice g.N.A g.N.l.length g.N.cap, I g.hd]
theorem rdNight : Rd enc Tryz.prog w base spare held 28 jmq (fun g => jaE w g.E.A g.T.A g.N.A g.E.l g.T.l g.N.l g.N.cap) :=
 jmZ.conv (fun p => ⟨p.1.1, p.1.2.1, p.2.1, p.2.2.1, p.2.2.2.1⟩) (fun _ => rfl) (fun _ h => ⟨h.1.2.1.rows, h.2.1.rows, h.2.2.1.rows, h.2.2.1.le⟩)
theorem jmp : Rd enc Tryz.prog w base spare held 49 (fun p : Int × SlA Int × Unit => [I p.1] ++ (jbA p.2.1 ++ [])) (fun p => (Lit.int .i64 p.1).wf = true ∧ SlG w 1 (fun n => [I n]) (fun n => (Lit.int .i64 n).wf = true) p.2.1 ∧ True) := by
 refine Rd.struct (tot := 2) Tryz.underlying49 (by kernel_rfl) ?_
 exact RdF.cons (sz := 1) jew rfl rfl (by kernel_rfl) (RdF.cons (sz := 1) jnl rfl rfl (by kernel_rfl) RdF.nil)
structure RtG (w : World) (r : Rt) : Prop where
 ints : k9 w r.nd.A r.nd.l
 len : r.nd.l.length ≤ maxLen
 cap : r.nd.l.length ≤ r.nd.cap
theorem rdRoute : Rd enc Tryz.prog w base spare held 49 jaT (RtG w) := jmp.conv (fun p => ⟨p.1, p.2.1⟩) (fun _ => rfl) (fun _ h => ⟨h.2.1.rows.ones, h.2.1.len, h.2.1.le⟩)
theorem jlP : Rd enc Tryz.prog w base spare held 31 (jbA (α := Rt)) (SlG w 2 jaT (RtG w)) := Rd.slice Tryz.underlying31 (by kernel_rfl) (by decide) rdRoute
theorem rdPlan : Rd enc Tryz.prog w base spare held 34 (fun p : SlA Rt × SlA Int × Unit => jbA p.1 ++ (jbA p.2.1 ++ [])) (fun p => SlG w 2 jaT (RtG w) p.1 ∧ SlG w 1 (fun n => [I n]) (fun n => (Lit.int .i64 n).wf = true) p.2.1 ∧ True) := by
 refine Rd.struct (tot := 2) Tryz.underlying34 (by kernel_rfl) ?_
 exact RdF.cons (sz := 1) jlP rfl rfl (by kernel_rfl) (RdF.cons (sz := 1) jnl rfl rfl (by kernel_rfl) RdF.nil)
theorem rtsAt0 {s : SlA Rt} (h : SlG w 2 jaT (RtG w) s) : jiz w s.A s.l := ⟨h.rows, fun r hr => (h.all r hr).ints, fun r hr => (h.all r hr).cap⟩
end
end Go.Proofs.YtgcokllbophkkaaGreat
namespace Go.Proofs.YtgcokllbophkkaaGreat
open Go Go.W Go.RowKit
instance (L M : List Blk) (b : Blk) [h : Sb L M] : Sb (b :: L) (b :: M) := ⟨h.out.cons_cons b⟩
instance (L L' M M' : List Blk) [h : Sb L L'] [h2 : Sb M M'] : Sb (L ++ M) (L' ++ M') := ⟨h.out.append h2.out⟩
section
variable (m : Nat) (l : List Edg) (ts : List q9) (ns : List z6) (hd : Int) (q : Nat)
noncomputable def jcV (ns : List z6) (i : Int) : Nat := (jaw ns i).node.toNat
noncomputable def jdY (a : Nat) (os : List Int) (b : Option Int) (i : Int) : Option Int :=
 if i ∈ os ∨ y7 m l ts ns hd q (os ++ [i]) ≠ 0 then b else
 match b with
 | none => some i
 | some j => if x9 m l a (jcV ns i) < x9 m l a (jcV ns j) then some i else some j
noncomputable def jl2 (a : Nat) (os left : List Int) : Option Int := left.foldl (jdY m l ts ns hd q a os) none
noncomputable def atN (os : List Int) : Nat := match os.getLast? with
 | none => (ts.getD q default).depot.toNat
 | some i => jcV ns i
noncomputable def jcu (left : List Int) : Nat → List Int → List Int
 | 0, os => os
 | k + 1, os => match jl2 m l ts ns hd q (atN ts ns q os) os left with
  | none => os
  | some i => jcu left k (os ++ [i])
def jcR (left x : List Int) : Prop := (left.length ≤ 6 ∧ jaQ (mvL ns) (jaS m l ts ns hd q) (SubP m l ts ns hd q left) (some x)) ∨ (6 < left.length ∧ x = jcu m l ts ns hd q left left.length [])
end
section
variable (m : Nat) (l : List Edg) (ts : List q9) (ns : List z6) (hd : Int)
inductive MkR : Nat → List (Int × List Int) → List Int → Prop
 | start : MkR 0 [] (upto ns.length)
 | skip {j : Nat} {R : List (Int × List Int)} {left : List Int} (h : MkR j R left) (hr : jcR m l ts ns hd j left []) : MkR (j + 1) R left
 | add {j : Nat} {R : List (Int × List Int)} {left x : List Int} (h : MkR j R left) (hr : jcR m l ts ns hd j left x) (hx : x ≠ []) : MkR (j + 1) (R ++ [((j : Int), x)]) (left.filter fun i => !decide (i ∈ x))
structure jei (n : Int) (e : Int) (R : List (Int × List Int)) (left : List Int) : Prop where
 err : e = q7 n l ts ns hd
 bad : e ≠ 0 → R = [] ∧ left = []
 good : e = 0 → ∃ m : Nat, n = m ∧ MkR m l ts ns hd ts.length R left
end
section
variable {m : Nat} {l : List Edg} {ts : List q9} {ns : List z6} {hd : Int} {q : Nat}
theorem jcR.unique {left x y : List Int} (h : jcR m l ts ns hd q left x) (h' : jcR m l ts ns hd q left y) : x = y := by
 rcases h with ⟨h1, h2⟩ | ⟨h1, h2⟩ <;> rcases h' with ⟨h3, h4⟩ | ⟨h3, h4⟩
 ·exact Option.some.inj (h2.unique h4)
 ·omega
 ·omega
 ·rw [h2, h4]
theorem MkR.unique {j : Nat} {R : List (Int × List Int)} {left : List Int} (h : MkR m l ts ns hd j R left) : ∀ {R' : List (Int × List Int)} {left' : List Int}, MkR m l ts ns hd j R' left' → R = R' ∧ left = left' := by
 induction h with
 | start => intro R' left' h'; cases h'; exact ⟨rfl, rfl⟩
 | skip h hr ih =>
  intro R' left' h'
  cases h' with
  | skip h2 hr2 => exact ih h2
  | add h2 hr2 hx2 =>
   obtain ⟨_, rfl⟩ := ih h2
   exact absurd (hr2.unique hr) hx2
 | add h hr hx ih =>
  intro R' left' h'
  cases h' with
  | skip h2 hr2 =>
   obtain ⟨_, rfl⟩ := ih h2
   exact absurd (hr.unique hr2) hx
  | add h2 hr2 hx2 =>
   obtain ⟨rfl, rfl⟩ := ih h2
   obtain rfl := hr.unique hr2
   exact ⟨rfl, rfl⟩
theorem jei.unique {n e e' : Int} {R R' : List (Int × List Int)} {left left' : List Int} (h : jei l ts ns hd n e R left) (h' : jei l ts ns hd n e' R' left') : e = e' ∧ R = R' ∧ left = left' := by
 have he : e = e' := h.err.trans h'.err.symm
 refine ⟨he, ?_⟩
 by_cases h0 : e = 0
 ·obtain ⟨m, hm, hM⟩ := h.good h0
  obtain ⟨m', hm', hM'⟩ := h'.good (he ▸ h0)
  obtain rfl : m = m' := by omega
  exact hM.unique hM'
 ·obtain ⟨rfl, rfl⟩ := h.bad h0
  obtain ⟨rfl, rfl⟩ := h'.bad (he ▸ h0)
  exact ⟨rfl, rfl⟩
theorem jhc {a : Nat} {os : List Int} {b : Option Int} {i : Int} : jdY m l ts ns hd q a os b i = b ∨ (jdY m l ts ns hd q a os b i = some i ∧ i ∉ os ∧ y7 m l ts ns hd q (os ++ [i]) = 0) := by
 unfold jdY
 by_cases h : i ∈ os ∨ y7 m l ts ns hd q (os ++ [i]) ≠ 0
 ·rw [if_pos h]; exact .inl rfl
 ·rw [if_neg h]
  have h2 : i ∉ os ∧ y7 m l ts ns hd q (os ++ [i]) = 0 := by
   refine ⟨fun h3 => h (.inl h3), ?_⟩
   by_cases h4 : y7 m l ts ns hd q (os ++ [i]) = 0
   ·exact h4
   ·exact absurd (.inr h4) h
  cases b with
  | none => exact .inr ⟨rfl, h2⟩
  | some j =>
   by_cases h5 : x9 m l a (jcV ns i) < x9 m l a (jcV ns j)
   ·exact .inr ⟨if_pos h5, h2⟩
   ·exact .inl (if_neg h5)
theorem jdq : ∀ (left : List Int) {a : Nat} {os : List Int} {b : Option Int} {i : Int}, left.foldl (jdY m l ts ns hd q a os) b = some i → b = some i ∨ (i ∈ left ∧ i ∉ os ∧ y7 m l ts ns hd q (os ++ [i]) = 0)
 | [], _, _, _, _, h => .inl h
 | x :: left, a, os, b, i, h => by
  rw [List.foldl_cons] at h
  rcases jdq left h with h1 | ⟨h1, h2⟩
  ·rcases jhc (m := m) (l := l) (ts := ts) (ns := ns) (hd := hd) (q := q) (a := a) (os := os) (b := b) (i := x) with h3 | ⟨h3, h4⟩
   ·exact .inl (h3 ▸ h1)
   ·rw [h3] at h1
    cases h1
    exact .inr ⟨List.mem_cons_self, h4⟩
  ·exact .inr ⟨List.mem_cons_of_mem _ h1, h2⟩
structure jlA (m : Nat) (l : List Edg) (ts : List q9) (ns : List z6) (hd : Int) (q : Nat) (left os : List Int) : Prop where
 nd : os.Nodup
 sub : ∀ i ∈ os, i ∈ left
 walk : os = [] ∨ y7 m l ts ns hd q os = 0
theorem jlA.nil {left : List Int} : jlA m l ts ns hd q left [] := ⟨List.nodup_nil, by simp, .inl rfl⟩
theorem jlA.step {left os : List Int} {a : Nat} {i : Int} (h : jlA m l ts ns hd q left os) (hi : jl2 m l ts ns hd q a os left = some i) : jlA m l ts ns hd q left (os ++ [i]) ∧ i ∈ left ∧ i ∉ os := by
 rcases jdq left hi with h1 | ⟨h1, h2, h3⟩
 ·cases h1
 ·refine ⟨⟨?_, fun x hx => ?_, .inr h3⟩, h1, h2⟩
  ·rw [List.nodup_append]
   exact ⟨h.nd, by simp, fun a ha b hb he => by simp at hb; subst hb he; exact h2 ha⟩
  ·rcases List.mem_append.1 hx with hx | hx
   ·exact h.sub x hx
   ·simp at hx; subst hx; exact h1
theorem jgC {left : List Int} : ∀ (k : Nat) {os : List Int}, jlA m l ts ns hd q left os → jlA m l ts ns hd q left (jcu m l ts ns hd q left k os)
 | 0, _, h => h
 | k + 1, os, h => by
  rw [jcu]
  cases hn : jl2 m l ts ns hd q (atN ts ns q os) os left with
  | none => exact h
  | some i => exact jgC k (h.step hn).1
end
end Go.Proofs.YtgcokllbophkkaaGreat
namespace Go.Proofs.YtgcokllbophkkaaGreat
open Go Go.W Go.RowKit
def jds : Option Int → Int
  | none => -1
  | some i => i
theorem onesLt {α : Type} {enc : α → Value} {w : World} {A : Option Addr} {l : List α} (h : jaa enc w A l) (hl : 0 < l.length) : ∃ b o, A = some ⟨b, o, none⟩ ∧ ∀ k (hk : k < l.length), w.cell? ⟨b, o + k, none⟩ = some (enc (l[k]'hk)) := by
  obtain ⟨b, o, rfl, _⟩ := h 0 hl
  refine ⟨b, o, rfl, fun k hk => ?_⟩
  obtain ⟨b', o', e, hc⟩ := h k hk
  cases e; exact hc
theorem jiJ (g m q : Nat) (hd : Int) (A B C F : Option Addr) (l : List Edg) (ts : List q9) (ns : List z6) (left : List Int) (ca cb cc cf : Nat) (w0 : World) (hN : jaE w0 A B C l ts ns cc) (hF : k9 w0 F left)
    (hg : jak w0 g 0 [I m, .slice A l.length ca, .slice B ts.length cb, .slice C ns.length cc, I hd]) (hK : jbU m l ts ns hd) (hq : q < ts.length) (hin : ∀ i ∈ left, 0 ≤ i ∧ i < (ns.length : Int)) (hll : left.length ≤ 1000) :
    Calls Tryz.prog 26 #[.pointer (some ⟨g, 0, none⟩), I q, .slice F left.length cf] w0 fun e w' => ∃ (x : List Int) (X : Option Addr) (c : Nat) (L : List Blk), e = .returned (.agg #[I q, .slice X x.length c]) ∧ x = jcu m l ts ns hd q left left.length [] ∧ OwnS X c x.length (x.map I) 3 1 L ∧ SH w0 [] w' L := by
  have H := SH.refl w0
  have htr := hK.tr ts[q] (List.getElem_mem hq)
  obtain ⟨dp, hdp⟩ := Int.eq_ofNat_of_zero_le htr.1.1
  have hnode : ∀ (i : Nat) (h : i < ns.length), jcV ns i < m ∧ ns[i].node = (jcV ns i : Nat) := fun i h => by
    have h1 := hK.nd ns[i] (List.getElem_mem h)
    unfold jcV; rw [jcY h]; omega
  have hgl : jcu m l ts ns hd q left left.length [] = jcu m l ts ns hd q left left.length [] := rfl
  refine Calls.ofWPc Tryz.func26 rfl Tryz.results26 Tryz.ntmps26 rfl<|Y.qr<|Y.al H rfl rfl ?_
  clear H; intro g6 w H
  refine Y.z<|Y.qr<|Y.D rfl<|Y.C rfl<|Y.F rfl ?_
  have hg' := k7 H hg
  refine Y.v (by (change Ev _ _ _ _ (Op.load 28 (Operand.tmp 21)) _; exact Ev.loadN [I m, .slice A l.length ca, .slice B ts.length cb, .slice C ns.length cc, I hd] (j6 rfl) (j4 rfl) rfl hg'))<|Y.al H rfl rfl ?_
  clear H; intro g7 w H
  refine Y.ss 0 H rfl (cA rfl) rfl ?_
  clear H; intro w H
  refine Y.z<|Y.qr<|Y.a rfl<|Y.v (Ev.build (jid rfl))<|Y.al H rfl rfl ?_
  clear H; intro g8 w H
  refine Y.ss 0 H rfl (cA rfl) rfl ?_
  clear H; intro w H
  refine Y.z<|Y.q ?_
  obtain ⟨bt, ot, rfl, htc⟩ := hN.t q hq
  obtain ⟨q1, _⟩ := htc
  rw [hdp] at q1
  refine Y.r<|Y.W H 1 rfl<|Y.a rfl<|Y.U rfl<|Y.F rfl<|Y.v (Y.c (H.ld0 (by assumption)) rfl) ?_
  refine Y.bz rfl<|Y.q<|WP.block<|WP.loop [9, 10, 11, 12, 14, 15, 16, 17, 18, 31, 32, 33, 34, 35, 36, 37, 38, 39, 40, 41, 42, 43, 44, 45, 46, 47, 48, 49, 50, 51, 52, 53, 54, 55, 56, 57, 58, 59, 60, 61, 62, 63, 64, 65, 66, 67, 68, 69, 70, 71, 72, 73, 74, 75, 76, 77, 78, 79, 80, 81, 82, 83, 84, 85, 86, 87, 88, 89, 90, 91, 92, 93, 94, 95, 96, 97, 98, 99, 100, 101, 102, 103, 104, 105, 106, 107, 108, 109, 110, 111, 112, 113, 114, 115] (fun k e w' => ∃ (os : List Int) (a : Nat) (V : Option Addr) (cv : Nat) (Lv : List Blk), e 9 = I a ∧ a < m ∧ a = atN ts ns q os ∧ os.length + k = left.length ∧ jcu m l ts ns hd q left k os = jcu m l ts ns hd q left left.length [] ∧ jlA m l ts ns hd q left os ∧ OwnS V cv os.length (os.map I) 3 1 Lv ∧ SH w0 [] w' ([⟨g8, 49, [I q, .slice V os.length cv]⟩, ⟨g7, 28, [I m, .slice A l.length ca, .slice (some ⟨bt, ot, none⟩) ts.length cb, .slice C ns.length cc, I hd]⟩, ⟨g6, 49, [I 0, .slice none 0 0]⟩] ++ Lv)) (left.length) (⟨[], dp, none, 0, [], rfl, by omega, (by unfold atN; simp [hq]; omega), by simp, rfl, jlA.nil, OwnS.nil, H⟩) ?_
  clear H
  rintro k u w ⟨os, a, V, cv, Lv, h9, ham, hae, hkk, hgr, hGr, hOV, H⟩
  refine WP.know (t := 9) h9 ?_
  simp only [List.cons_append, List.nil_append] at H
  refine Y.qq<|Y.W H 0 rfl<|Y.E rfl<|Y.sS rfl<|Y.E rfl<|Y.lt rfl<|Y.z ?_
  refine Y.i rfl (fun hc4 => ?_) fun hc4 => ?_
  · obtain ⟨k, rfl⟩ : ∃ k', k = k' + 1 := ⟨k - 1, by have : os.length < left.length := by simpa using hc4
                                                     omega⟩
    obtain ⟨hte, htl⟩ := jcb hK.road ham
    have htn := jau m l a
    have htc := fun w hz => jfe m a A l ca w hz
    rw [htl, hte, htn] at htc
    rw [jcu, ← hae] at hgr
    refine Y.k<|WP.block<|Y.qr<|Y.F rfl<|Y.v (Ev.loadN [_, _] (j6 rfl) (j4 rfl) rfl ⟨H.ldL 1 rfl _ rfl, H.ldL 1 rfl _ rfl, trivial⟩)<|Y.a rfl<|Y.c2 41 rfl (htc w (hN.sh H).l) ?_
    rintro _ w ⟨TA, Lc, rfl, hOL, Hc⟩
    refine ⟨_, rfl, ?_⟩
    replace H := SH.call (L1 := _) (Lv := []) (by rw [List.append_nil]; exact H) Hc
    clear Hc
    simp only [List.cons_append] at H
    refine Y.T rfl<|Y.G rfl<|Y.G rfl<|Y.aS rfl<|Y.bz rfl<|Y.qq<|Y.a rfl<|Y.V rfl<|Y.z ?_
    refine Y.i rfl (fun hc6 => ?_) fun hc6 => ?_
    · refine Y.qr<|Y.O H 0 rfl<|Y.ss 2 H rfl (cA rfl) rfl ?_
      clear H; intro w H
      refine Y.z ?_
      refine WP.ret ⟨[_], ⟨(by exact x6 2 H rfl (j6 rfl) (j4 rfl) (by rfl) rfl), trivial⟩, ?_⟩
      exact absurd hc6 (by simp)
    refine Y.k<|Y.qr<|Y.bz rfl<|Y.qq<|Y.sS rfl<|Y.E rfl<|Y.a rfl<|Y.z<|WP.block<|WP.loop [12, 14, 15, 16, 17, 18, 49, 50, 51, 52, 53, 54, 55, 56, 57, 58, 59, 60, 61, 62, 63, 64, 65, 66, 67, 68, 69, 70, 71, 72, 73, 74, 75, 76, 77, 78, 79, 80, 81, 82, 83, 84, 85, 86, 87, 88, 89, 90, 91, 92, 93, 94, 95, 96, 97, 98, 99, 100] (fun k e w' => ∃ (j : Nat) (b : Option Int), j + k = left.length ∧ e 49 = I j ∧ e 12 = I (jds b) ∧ b = (left.take j).foldl (jdY m l ts ns hd q a os) none ∧ SH w0 [] w' (⟨g8, 49, [I q, .slice V os.length cv]⟩ :: ⟨g7, 28, [I m, .slice A l.length ca, .slice (some ⟨bt, ot, none⟩) ts.length cb, .slice C ns.length cc, I hd]⟩ :: ⟨g6, 49, [I 0, .slice none 0 0]⟩ :: (Lv ++ Lc))) (left.length) (⟨0, none, by omega, rfl, rfl, rfl, H⟩) ?_
    clear H
    rintro k2 u2 w ⟨j, b, hk2, h49, h12, hb, H⟩
    refine WP.know (t := 49) h49 (WP.know (t := 12) h12 ?_)
    refine Y.qr<|Y.lt rfl<|Y.z<|Y.q ?_
    refine Y.i rfl (fun hc10 => ?_) fun hc10 => ?_
    · have hlt : j < left.length := by simpa using hc10
      obtain ⟨bl, ol, rfl, hx⟩ := hF j hlt
      have hir := hin left[j] (List.getElem_mem hlt)
      obtain ⟨i, hi⟩ := Int.eq_ofNat_of_zero_le hir.1
      have htk : (left.take (j + 1)).foldl (jdY m l ts ns hd q a os) none = jdY m l ts ns hd q a os b (i : Int) := by
        rw [List.take_succ_eq_append_getElem hlt, List.foldl_append, ← hb, hi]; rfl
      rw [hi] at hx hir
      have hil : i < ns.length := by omega
      obtain ⟨bn, on, hCe, hy⟩ := hN.n i hil
      obtain ⟨hni, hnn⟩ := hnode i hil
      obtain ⟨q2, _⟩ := hy
      rw [hnn] at q2
      have hbz : ∀ z, b = some z → 0 ≤ z ∧ z < (ns.length : Int) := fun z hz => by
        rcases jdq _ (hb.symm.trans hz) with h | ⟨h, _⟩
        · cases h
        · exact hin z (List.mem_of_mem_take h)
      have hzz : 0 ≤ jds b → b = some (jds b) ∧ jds b = ((jds b).toNat : Int) ∧ (jds b).toNat < ns.length := fun h => by
        cases hbb : b with
        | none => rw [hbb] at h; exact absurd h (by decide)
        | some z =>
          have := hbz z hbb
          have he : jds (some z) = z := rfl
          rw [he]
          exact ⟨rfl, by omega, by omega⟩
      have hzn : 0 ≤ jds b → w0.cell? ⟨bn, on + (jds b).toNat * 2, none⟩ = some (I (jcV ns (jds b) : Nat)) := fun h => by
        obtain ⟨_, h2, h3⟩ := hzz h
        obtain ⟨b', o', e', hy'⟩ := hN.n (jds b).toNat h3
        rw [hCe] at e'; cases e'
        obtain ⟨h4, h5⟩ := hnode (jds b).toNat h3
        have h6 := hy'.1
        rw [h5, ← h2] at h6
        exact h6
      have hzm : 0 ≤ jds b → jcV ns (jds b) < m := fun h => by
        obtain ⟨_, h2, h3⟩ := hzz h
        have := (hnode (jds b).toNat h3).1
        rwa [← h2] at this
      subst hCe
      have hcl : ∀ {x : Bool}, ((x == false) && (decide (0 ≤ jds b) == true)) = true → 0 ≤ jds b := fun h => by
        simp at h; exact h.2
      have hcn : ∀ {x y : Bool}, ((x == false) && (y == true)) = true → y = true := fun h => by
        simp at h; exact h.2
      refine Y.k<|Y.q<|WP.block<|Y.qr<|Y.I rfl<|Y.v (Y.c (H.ld0 (by assumption)) rfl) ?_
      refine Y.bz rfl<|Y.q<|Y.q ?_
      obtain ⟨bT, oT, rfl, hcT⟩ := onesLt (hOL.rd H (fun b hb => List.mem_cons_of_mem _ (List.mem_cons_of_mem _ (List.mem_cons_of_mem _ (List.mem_append_right _ hb))))) (by rw [htn]; omega)
      have q3 := hcT (jcV ns i) (by rw [htn]; exact hni)
      rw [jbG] at q3
      have q4 : 0 ≤ jds b → w.cell? ⟨bT, oT + jcV ns (jds b), none⟩ = some (I (x9 m l a (jcV ns (jds b)))) := fun h => by
        have := hcT (jcV ns (jds b)) (by rw [htn]; exact hzm h)
        rwa [jbG] at this
      have hVi := (hOV.ones (R := []) (H.drop (L' := Lv) Sb.out)).1
      refine WP.rquiet mixed (by kernel_rfl) H ?_
      clear H; intro w hbw12 H
      refine Y.F rfl ?_
      replace q3 := cell_below hbw12 q3
      replace q4 := fun h => cell_below hbw12 (q4 h)
      refine Y.J H 0 rfl<|Y.a rfl<|OPS.callq rfl rfl rfl (EvC.func (z7 rfl)) (fun w2 hb2 => jdk V os cv i w2 ((hVi.below hbw12).below hb2) (by unfold maxLen; omega)) ?_
      refine Y.B rfl<|Y.gm rfl<|Y.g rfl rfl (fun hg => Ev.geq (gvE hg rfl) rfl)<|Y.g rfl rfl (fun hg => Ev.mvB (gvE hg rfl))<|OPS.gvalN rfl rfl (GB.g rfl) rfl rfl (fun hg => Ev.mvS rfl)<|OPS.gvalN rfl rfl (GB.g rfl) rfl rfl (fun hg => Ev.fieldAddr (jaf rfl) rfl)<|OPS.gvalN rfl rfl (GB.g rfl) rfl rfl (fun hg => Ev.load1 (j6 rfl) (gvE hg rfl) (H.ldL 1 rfl _ rfl))<|OPS.gvalN rfl rfl (GB.g rfl) rfl rfl (fun hg => Ev.mvI rfl)<|OPS.gvalN rfl rfl (GB.g rfl) rfl rfl (fun hg => (Ev.indexAddr (x7 rfl) (j4 rfl) (gvE hg rfl) (gvE hg rfl) rfl (by omega)))<|OPS.gvalN rfl rfl (GB.g rfl) rfl rfl (fun hg => Ev.fieldAddr (jaf rfl) (gvE hg rfl))<|OPS.gvalN rfl rfl (GB.g rfl) rfl rfl (fun hg => Ev.load1 (j6 rfl) (gvE hg rfl) (H.ld0 (by assumption))) ?_
      refine OPS.gvalN rfl rfl (GB.g rfl) rfl rfl (fun hg => (Ev.indexAddr1 (x7 rfl) (j4 rfl) (gvE hg rfl) (gvE hg rfl) rfl (by omega)))<|OPS.gvalN rfl rfl (GB.g rfl) rfl rfl (fun hg => Ev.load1 (j6 rfl) (gvE hg rfl) (by assumption)) ?_
      refine OPS.gvalN rfl rfl (GB.g rfl) rfl rfl (fun hg => Ev.mvS rfl)<|OPS.gvalN rfl rfl (GB.g rfl) rfl rfl (fun hg => Ev.fieldAddr (jaf rfl) rfl)<|OPS.gvalN rfl rfl (GB.g rfl) rfl rfl (fun hg => Ev.load1 (j6 rfl) (gvE hg rfl) (H.ldL 1 rfl _ rfl))<|OPS.gvalN rfl rfl (GB.g rfl) rfl rfl (fun hg => Ev.mvI rfl)<|OPS.gvalN (v := .pointer (some ⟨bn, on + (jds b).toNat * 2, none⟩)) rfl rfl (GB.g rfl) rfl rfl (fun hg => Ev.indexAddr (j := (jds b).toNat) (x7 rfl) (j4 rfl) (gvE hg rfl) (gvE hg rfl) (hzz (hcl hg)).2.1 (hzz (hcl hg)).2.2)<|OPS.gvalN rfl rfl (GB.g rfl) rfl rfl (fun hg => Ev.fieldAddr (jaf rfl) (gvE hg rfl))<|OPS.gvalN (v := I (jcV ns (jds b) : Nat)) rfl rfl (GB.g rfl) rfl rfl (fun hg => Ev.load1 (j6 rfl) (gvE hg rfl) (H.ld0 (hzn (hcl hg))))<|OPS.gvalN (v := .pointer (some ⟨bT, oT + jcV ns (jds b), none⟩)) rfl rfl (GB.g rfl) rfl rfl (fun hg => Ev.indexAddr1 (x7 rfl) (j4 rfl) (gvE hg rfl) (gvE hg rfl) rfl (hzm (hcl hg)))<|OPS.gvalN (v := I (x9 m l a (jcV ns (jds b)))) rfl rfl (GB.g rfl) rfl rfl (fun hg => Ev.load1 (j6 rfl) (gvE hg rfl) (q4 (hcl hg)))<|OPS.gvalN rfl rfl (GB.g rfl) rfl rfl (fun hg => Ev.geq (gvE hg rfl) (gvE hg rfl))<|Y.g rfl rfl (fun hg => Ev.pickAnd2 (beqT hg) (gvE hg rfl) rfl rfl)<|Y.po rfl<|OPS.nilq H ?_
      clear H; intro w hbx12 H
      refine Y.i rfl (fun hc12 => ?_) fun hc12 => ?_
      · have hbb : jdY m l ts ns hd q a os b (i : Int) = b := by
          unfold jdY
          by_cases h : (i : Int) ∈ os ∨ y7 m l ts ns hd q (os ++ [(i : Int)]) ≠ 0
          · rw [if_pos h]
          · rw [if_neg h]
            have hno : (i : Int) ∉ os := fun h2 => h (.inl h2)
            simp [hno] at hc12
            obtain ⟨h2, _⟩ := hzz hc12.1
            rw [h2]
            exact if_neg (by omega)
        obtain ⟨b2, hb2, hb3⟩ : ∃ b2, jds b = jds b2 ∧ b2 = jdY m l ts ns hd q a os b (i : Int) := ⟨b, rfl, hbb.symm⟩
        refine WP.exit<|XB.hit<|Y.r<|Y.P rfl<|Y.a rfl<|Y.z ?_
        exact ⟨Y.ag, k2 - 1, by omega, j + 1, b2, by omega, rfl, congrArg I hb2, (by rw [htk]; exact hb3), H.drop Sb.out⟩
      have hno : (i : Int) ∉ os := fun h => by simp [h] at hc12
      have hVn : V = none → cv = 0 := fun h => by
        rcases hOV.form with ⟨_, _, h2, _⟩ | ⟨g, sp, h2, _⟩
        · exact h2
        · rw [h2] at h; cases h
      have hgl2 : os.length ≤ 1000 := by have := hGr.nd.length_le_of_subset (l₂ := left) hGr.sub; omega
      have hob : (os ++ [(i : Int)]).length = os.length + 1 := by simp
      refine Y.k<|Y.qr<|Y.a rfl<|Y.W H 0 rfl<|Y.c2 85 rfl (jhw V os cv w (hOV.ones (R := []) (H.drop (L' := Lv) Sb.out)).1 hgl2 hVn) ?_
      rintro _ w ⟨A2, c2, Lo, rfl, hO2, Hc⟩
      refine ⟨_, rfl, ?_⟩
      replace H := SH.call (L1 := _) (Lv := []) (by rw [List.append_nil]; exact H) Hc
      clear Hc
      simp only [List.cons_append] at H
      refine Y.a rfl<|OPS.buildSlice rfl rfl rfl rfl (jaJ rfl) H ?_
      clear H; intro g87 w H
      refine OPS.append (m := 1) (news := [I i]) (R := ⟨g87, 3, [I i]⟩ :: ⟨g8, 49, [I q, .slice V os.length cv]⟩ :: ⟨g7, 28, [I m, .slice A l.length ca, .slice (some ⟨bt, ot, none⟩) ts.length cb, .slice (some ⟨bn, on, none⟩) ns.length cc, I hd]⟩ :: ⟨g6, 49, [I 0, .slice none 0 0]⟩ :: (Lv ++ Lc)) rfl rfl rfl rfl rfl (z8 rfl) rfl rfl hO2 rfl (y0 H 0 rfl) rfl (by omega) (by unfold maxLen; omega) H (List.Perm.refl _) ?_
      clear H hO2; intro A2 c2 Lo w hO2 H
      replace hO2 : OwnS A2 c2 (os.length + 1) ((os ++ [(i : Int)]).map I) 3 1 Lo := by simpa using hO2
      simp only [List.cons_append] at H
      refine Y.v (Ev.build (jey rfl rfl))<|Y.al H rfl rfl ?_
      clear H; intro g15 w H
      refine Y.ss 0 H rfl (cA rfl) rfl ?_
      clear H; intro w H
      refine Y.z<|Y.q ?_
      have hwk := fun w hz ht hn hr => jiM m hd q A (some ⟨bt, ot, none⟩) (some ⟨bn, on, none⟩) A2 l ts ns (os ++ [(i : Int)]) ca cb cc c2 w hz ht hn hN.c hr (by unfold maxLen; omega) (by rw [hob]; exact hO2.le)
      rw [hob] at hwk
      refine Y.r<|Y.O H 3 rfl<|Y.O H 0 rfl<|Y.c2 93 rfl (hwk w (hN.sh H).l (hN.sh H).t (hN.sh H).n (hO2.ones (R := []) (H.drop (L' := Lo) Sb.out)).1) ?_
      rintro _ w ⟨W, cw, Lw, rfl, hOW, Hc⟩
      refine ⟨_, rfl, ?_⟩
      replace H := SH.call (L1 := _) (Lv := []) (by rw [List.append_nil]; exact H) Hc
      clear Hc
      simp only [List.cons_append] at H
      refine Y.T rfl<|Y.G rfl<|Y.G rfl<|Y.G rfl<|Y.aS rfl<|Y.b rfl<|Y.bz rfl<|Y.qr<|Y.a rfl<|Y.v (Ev.eql rfl rfl)<|Y.z ?_
      refine Y.i rfl (fun hc15 => ?_) fun hc15 => ?_
      · have hw0 : y7 m l ts ns hd q (os ++ [(i : Int)]) = 0 := by simpa using hc15
        obtain ⟨b2, hb2, hb3⟩ : ∃ b2, (i : Int) = jds b2 ∧ b2 = jdY m l ts ns hd q a os b (i : Int) := ⟨some i, rfl, by
          unfold jdY
          rw [if_neg (by simp [hno, hw0])]
          cases hbb : b with
          | none => rfl
          | some z =>
            have h1 := (hbz z hbb).1
            rw [hbb] at hc12
            simp [hno] at hc12
            have h2 : jds (some z) = z := rfl
            rw [h2] at hc12
            exact (if_pos (by have := hc12 h1; omega)).symm⟩
        refine Y.r<|Y.a rfl<|Y.bz rfl<|Y.r<|Y.P rfl<|Y.a rfl<|Y.z ?_
        exact ⟨Y.ag, k2 - 1, by omega, j + 1, b2, by omega, rfl, congrArg I hb2, (by rw [htk]; exact hb3), H.drop Sb.out⟩
      have hw0 : y7 m l ts ns hd q (os ++ [(i : Int)]) ≠ 0 := by simpa using hc15
      obtain ⟨b2, hb2, hb3⟩ : ∃ b2, jds b = jds b2 ∧ b2 = jdY m l ts ns hd q a os b (i : Int) := ⟨b, rfl, (if_pos (.inr hw0)).symm⟩
      refine Y.k<|Y.r<|Y.P rfl<|Y.a rfl<|Y.z ?_
      exact ⟨Y.ag, k2 - 1, by omega, j + 1, b2, by omega, rfl, congrArg I hb2, (by rw [htk]; exact hb3), H.drop Sb.out⟩
    have hj : j = left.length := by simp at hc10; omega
    rw [hj, List.take_length] at hb
    have hb' : jl2 m l ts ns hd q a os left = b := hb.symm
    rw [hb'] at hgr
    refine WP.exit<|XB.hit<|Y.qq<|Y.a rfl<|Y.lt rfl<|Y.z ?_
    refine Y.i rfl (fun hc18 => ?_) fun hc18 => ?_
    · refine Y.qr<|Y.O H 0 rfl<|Y.ss 2 H rfl (cA rfl) rfl ?_
      clear H; intro w H
      refine Y.z ?_
      refine WP.ret ⟨[_], ⟨(by exact x6 2 H rfl (j6 rfl) (j4 rfl) (by rfl) rfl), trivial⟩, ?_⟩
      have hbn : b = none := by
        cases hbb : b with
        | none => rfl
        | some z =>
          rcases jdq _ (hb.symm.trans hbb) with h | ⟨h, _⟩
          · cases h
          · have h1 := (hin z h).1
            rw [hbb] at hc18
            have h2 : ¬ z < 0 := by omega
            exact absurd (of_decide_eq_true hc18) h2
      rw [hbn] at hgr
      exact ⟨os, V, cv, Lv, rfl, hgr, hOV, H.drop Sb.out⟩
    obtain ⟨z, hbz⟩ : ∃ z, b = some z := by
      cases hbb : b with
      | none => rw [hbb] at hc18; exact absurd hc18 (by decide)
      | some z => exact ⟨z, rfl⟩
    subst hbz
    obtain ⟨hG2, hzl, hzo⟩ := hGr.step hb'
    have hiz := hin z hzl
    obtain ⟨p, rfl⟩ := Int.eq_ofNat_of_zero_le hiz.1
    have hpl : p < ns.length := by omega
    obtain ⟨hnp, hnq⟩ := hnode p hpl
    refine Y.k<|Y.qr<|Y.W H 0 rfl<|Y.a rfl<|OPS.buildSlice rfl rfl rfl rfl (jaJ rfl) H ?_
    clear H; intro g107 w H
    refine OPS.append (m := 1) (news := [I p]) (R := ⟨g107, 3, [I p]⟩ :: ⟨g8, 49, [I q, .slice V os.length cv]⟩ :: ⟨g7, 28, [I m, .slice A l.length ca, .slice (some ⟨bt, ot, none⟩) ts.length cb, .slice C ns.length cc, I hd]⟩ :: ⟨g6, 49, [I 0, .slice none 0 0]⟩ :: Lc) rfl rfl rfl rfl rfl (z8 rfl) rfl rfl hOV rfl (y0 H 0 rfl) rfl (by omega) (by unfold maxLen; omega) H (by exact jio fun f => by simp [jds] <;> omega) ?_
    clear H hOV; intro V cv Lv w hOV H
    replace hOV : OwnS V cv (os.length + 1) ((os ++ [(p : Int)]).map I) 3 1 Lv := by simpa using hOV
    simp only [List.cons_append] at H
    refine Y.F rfl<|Y.ss 1 H rfl (cS rfl) rfl ?_
    clear H; intro w H
    refine Y.z ?_
    obtain ⟨bn, on, rfl, hy⟩ := hN.n p hpl
    obtain ⟨q2, _⟩ := hy
    rw [hnq] at q2
    refine Y.r<|Y.W H 2 rfl<|Y.a rfl<|Y.U rfl<|Y.F rfl<|Y.v (Y.c (H.ld0 (by assumption)) rfl) ?_
    refine Y.bz rfl ?_
    exact ⟨Y.ag, k, by omega, os ++ [(p : Int)], jcV ns p, V, cv, Lv, rfl, hnp, (by unfold atN; simp), (by simp; omega), hgr, hG2, (by simpa using hOV), (by
      have := H.drop (L' := ⟨g8, 49, [I q, .slice V (os.length + 1) cv]⟩ :: ⟨g7, 28, [I m, .slice A l.length ca, .slice (some ⟨bt, ot, none⟩) ts.length cb, .slice (some ⟨bn, on, none⟩) ns.length cc, I hd]⟩ :: ⟨g6, 49, [I 0, .slice none 0 0]⟩ :: Lv) Sb.out
      simpa using this)⟩
  refine WP.exit<|XB.hit<|Y.qr<|Y.O H 0 rfl<|Y.ss 2 H rfl (cA rfl) rfl ?_
  clear H; intro w H
  refine Y.z ?_
  refine WP.ret ⟨[_], ⟨(by exact x6 2 H rfl (j6 rfl) (j4 rfl) (by rfl) rfl), trivial⟩, ?_⟩
  have h0 : k = 0 := by have : ¬ os.length < left.length := by simpa using hc4
                        omega
  subst h0
  exact ⟨os, V, cv, Lv, rfl, hgr, hOV, H.drop Sb.out⟩
end Go.Proofs.YtgcokllbophkkaaGreat
namespace Go.Proofs.YtgcokllbophkkaaGreat
open Go Go.W Go.RowKit
theorem jgt (A : Option Addr) (l : List Int) (cap : Nat) (f : Nat) (caps : List Value) (p : Int → Bool) (w0 : World) (hz : k9 w0 A l) (hl : l.length ≤ maxLen) (hfun : jhU f = true)
  (hf : ∀ x ∈ l, ∀ w, Below w0.heap.size w0 w → Calls Tryz.prog f ([(I x : Value)] ++ caps).toArray w fun e w' => e = .returned (.bool (p x)) ∧ Below w.heap.size w w') :
  Calls Tryz.prog 51 #[.slice A l.length cap, .func (.func f) #[] caps.toArray] w0 fun e w' => ∃ r : Int, e = .returned (I r) ∧ ((r = -1 ∧ ∀ i (h : i < l.length), p l[i] = false) ∨ ∃ (j : Nat) (h : j < l.length), r = j ∧ p l[j] = true ∧ ∀ i (h : i < l.length), i < j → p l[i] = false) ∧ Below w0.heap.size w0 w' := by
 have H := SH.refl w0
 have hl' : l.length ≤ 9223372036854775807 := by unfold maxLen at hl; omega
 refine Calls.ofWP Tryz.func51 rfl Tryz.results51 Tryz.ntmps51 rfl<|Y.qr<|Y.bz rfl<|Y.qq<|Y.sS rfl<|Y.E rfl<|Y.a rfl<|Y.z<|WP.block<|WP.loop [4, 5, 8, 9, 10, 11, 12, 13, 14, 15, 16, 17, 18] (fun k e w' => ∃ j : Nat, j + k = l.length ∧ e 8 = I j ∧ SH w0 [] w' [] ∧ ∀ i (h : i < l.length), i < j → p l[i] = false) (l.length) (⟨0, by omega, rfl, H, fun i _ hi => absurd hi (by omega)⟩) ?_
 clear H
 rintro k u w ⟨j, hk, h8, H, hall⟩
 refine WP.know (t := 8) h8<|Y.qr<|Y.lt rfl<|Y.z<|Y.q ?_
 refine WP.cond rfl (fun hc2 => ?_) (fun hc2 => ?_)
 ·have hlt : j < l.length := by simpa using hc2
  obtain ⟨b, o, rfl, hx⟩ := hz j hlt
  refine Y.k<|Y.q<|WP.block<|Y.qr<|Y.a rfl<|Y.bz rfl<|Y.qr<|Y.v (Ev.mvF rfl)<|Y.sS rfl<|Y.a rfl<|Y.I rfl<|Y.v (Y.c (H.ld0 (by assumption)) rfl) ?_
  refine OPS.call (d := some 16) rfl rfl rfl (EvC.clos rfl (z7 (by assumption))) (hf l[j] (List.getElem_mem hlt) w H.below) ?_
  rintro _ w ⟨rfl, hb⟩
  refine ⟨_, rfl, ?_⟩
  replace H := H.toBelow hb; clear hb
  refine Y.z ?_
  refine WP.cond rfl (fun hc4 => ?_) (fun hc4 => ?_)
  ·refine Y.qr<|Y.a rfl<|Y.bz rfl ?_
   refine WP.ret ⟨_, rfl, ?_⟩
   exact ⟨j, rfl, .inr ⟨j, hlt, rfl, hc4, hall⟩, H.below⟩
  refine Y.k<|Y.r<|Y.P rfl<|Y.a rfl<|Y.z ?_
  refine ⟨Y.ag, k - 1, by omega, j + 1, by omega, rfl, H, fun i hi hij => ?_⟩
  rcases Nat.lt_succ_iff_lt_or_eq.1 hij with h | rfl
  ·exact hall i hi h
  ·exact hc4
 refine WP.exit<|XB.hit<|Y.qr<|Y.bz rfl ?_
 refine WP.ret ⟨_, rfl, ?_⟩
 exact ⟨-1, rfl, .inl ⟨rfl, fun i hi => hall i hi (by simp at hc2; omega)⟩, H.below⟩
theorem filtD {p : Int → Bool} {l : List Int} {j : Nat} (h : j < l.length) : (l.take (j + 1)).filter (fun x => !p x) = (l.take j).filter (fun x => !p x) ++ if p l[j] = true then [] else [l[j]] := by
 rw [List.take_succ_eq_append_getElem h, List.filter_append]
 by_cases hp : p l[j] = true <;> simp [hp]
theorem jlL (g : Nat) (l : List Int) (sp : List Value) (cap f : Nat) (caps : List Value) (p : Int → Bool) (w0 : World) (H0 : SH w0 [g] w0 [⟨g, 3, l.map I ++ sp⟩]) (hl : l.length ≤ 1000) (hcap : l.length ≤ cap) (hfun : jhU f = true)
  (hf : ∀ (cs : List Value) (w : World), SH w0 [g] w [⟨g, 3, cs⟩] → ∀ x : Int, Calls Tryz.prog f ([(I x : Value)] ++ caps).toArray w fun e w' => e = .returned (.bool (p x)) ∧ Below w.heap.size w w') :
  Calls Tryz.prog 28 #[.slice (some ⟨g, 0, none⟩) l.length cap, .func (.func f) #[] caps.toArray] w0 fun e w' => ∃ sp', e = .returned (.slice (some ⟨g, 0, none⟩) (l.filter fun x => !p x).length cap) ∧ (l.filter fun x => !p x).length + sp'.length = l.length + sp.length ∧ SH w0 [g] w' [⟨g, 3, (l.filter fun x => !p x).map I ++ sp'⟩] := by
 have H := H0
 have hcl : ∀ (cur : List Int) (w : World), SH w0 [g] w [⟨g, 3, cur.map I ++ sp⟩] → ∀ k (h : k < cur.length), w.cell? ⟨g, 0 + k, none⟩ = some (I cur[k]) := fun cur w H k hk => by
  obtain ⟨b, o, e, hc⟩ := jaa.own (enc := I) (l := cur) (post := sp) H 0 rfl rfl k hk
  cases e; exact hc
 refine Calls.ofWP Tryz.func28 rfl Tryz.results28 Tryz.ntmps28 rfl<|Y.qr<|Y.aS rfl<|Y.z<|Y.qr<|Y.sS rfl<|Y.v (Ev.mvF rfl)<|Y.c2 10 rfl (jgt (some ⟨g, 0, none⟩) l cap f caps p w0 (jaa.own (enc := I) (l := l) (post := sp) H 0 rfl rfl) (by unfold maxLen; omega) hfun (fun x _ w2 hb => hf _ w2 (H.toBelow hb) x)) ?_
 rintro _ w ⟨r, rfl, hr, hb⟩
 refine ⟨_, rfl, ?_⟩
 replace H := H.toBelow hb
 clear hb
 refine Y.bz rfl<|Y.qq<|Y.a rfl<|Y.v (Ev.eql rfl rfl)<|Y.z ?_
 refine WP.cond rfl (fun hc2 => ?_) (fun hc2 => ?_)
 ·refine Y.qr<|Y.sS rfl<|Y.aS rfl<|Y.z ?_
  refine WP.ret ⟨_, rfl, ?_⟩
  have hr1 : r = -1 := by simpa using hc2
  have hfl : l.filter (fun x => !p x) = l := by
   rcases hr with ⟨_, h⟩ | ⟨j, _, h, _⟩
   ·exact List.filter_eq_self.2 fun x hx => by
     obtain ⟨i, hi, rfl⟩ := List.mem_iff_getElem.1 hx
     simp [h i hi]
   ·omega
  rw [hfl]
  exact ⟨sp, rfl, rfl, H⟩
 have hr1 : r ≠ -1 := by simpa using hc2
 obtain ⟨j0, hj0, rfl, hp0, hall⟩ : ∃ (j : Nat) (h : j < l.length), r = j ∧ p l[j] = true ∧ ∀ i (h : i < l.length), i < j → p l[i] = false := by
  rcases hr with ⟨h, _⟩ | h
  ·exact absurd h hr1
  ·exact h
 clear hr hr1
 have hf0 : (l.take j0).filter (fun x => !p x) = l.take j0 := List.filter_eq_self.2 fun x hx => by
  obtain ⟨i, hi, rfl⟩ := List.mem_iff_getElem.1 hx
  rw [List.length_take] at hi
  rw [List.getElem_take]
  simp [hall i (by omega) (by omega)]
 have hf1 : (l.take (j0 + 1)).filter (fun x => !p x) = l.take j0 := by rw [filtD hj0, if_pos hp0, List.append_nil, hf0]
 refine Y.k<|Y.qq<|Y.a rfl<|Y.P rfl<|Y.bz rfl<|WP.block<|WP.loop [5, 6, 7, 16, 17, 18, 19, 20, 21, 22, 23, 24, 25, 26, 27, 28, 29, 30, 31, 32, 33, 34, 35] (fun k e w' => ∃ (i m : Nat) (cur : List Int), i + k = l.length ∧ e 6 = I i ∧ e 5 = I m ∧ m < i ∧ cur.length = l.length ∧ m = ((l.take i).filter fun x => !p x).length ∧ cur.take m = (l.take i).filter (fun x => !p x) ∧ cur.drop i = l.drop i ∧ SH w0 [g] w' [⟨g, 3, cur.map I ++ sp⟩]) ((l.length - (j0 + 1))) (⟨j0 + 1, j0, l, by omega, rfl, rfl, by omega, rfl, (by rw [hf1, List.length_take]; omega), hf1.symm, rfl, H⟩) ?_
 clear H
 rintro k u w ⟨i, m, cur, hk, h6, h5, hmi, hcl2, hml, htk, hdr, H⟩
 refine WP.know (t := 6) h6 (WP.know (t := 5) h5 ?_)
 refine Y.qq<|Y.a rfl<|Y.sS rfl<|Y.E rfl<|Y.lt rfl<|Y.z ?_
 refine WP.cond rfl (fun hc5 => ?_) (fun hc5 => ?_)
 ·have hlt : i < l.length := by simpa using hc5
  have hci : cur[i]'(by omega) = l[i] := by
   have := congrArg (fun l => l[0]?) hdr
   simp only [List.getElem?_drop, Nat.add_zero] at this
   rw [List.getElem?_eq_getElem (by omega), List.getElem?_eq_getElem (by omega)] at this
   exact Option.some.inj this
  have hnx := filtD (p := p) hlt
  refine Y.k<|Y.q<|WP.block<|Y.qr ?_
  have hx := hcl cur w H i (by omega)
  rw [hci] at hx
  refine Y.sS rfl<|Y.a rfl<|Y.I rfl<|Y.v (Y.c (by assumption) rfl) ?_
  refine Y.bz rfl<|Y.qr<|Y.v (Ev.mvF rfl)<|Y.a rfl<|OPS.call (d := some 28) rfl rfl rfl (EvC.clos rfl (z7 (by assumption))) (hf _ w H l[i]) ?_
  rintro _ w ⟨rfl, hb⟩
  refine ⟨_, rfl, ?_⟩
  replace H := H.toBelow hb; clear hb
  refine Y.v (Ev.not rfl)<|Y.z ?_
  refine WP.cond rfl (fun hc8 => ?_) (fun hc8 => ?_)
  ·refine Y.q ?_
   have hpf : ¬ p l[i] = true := by simpa using hc8
   rw [if_neg hpf] at hnx
   refine Y.r<|Y.sS rfl<|Y.a rfl<|Y.a rfl<|Y.I rfl<|OPS.store (b := ⟨g, 3, cur.map I ++ sp⟩) 0 (0 + m) rfl rfl rfl (j4 rfl) rfl (cI (n := l[i]) rfl) rfl rfl H rfl (by simp; omega) ?_
   clear H; intro w H
   simp only [List.set_cons_zero] at H
   rw [Nat.zero_add, jif (enc := I) cur sp m l[i] (by omega)] at H
   refine Y.z<|Y.r<|Y.a rfl<|Y.P rfl<|Y.bz rfl<|Y.r<|Y.a rfl<|Y.P rfl<|Y.bz rfl ?_
   first
    | exact ⟨Y.ag, k - 1, by omega, i + 1, m, cur, by omega, rfl, rfl, by omega, hcl2, by rw [hnx]; exact hml, by rw [hnx]; exact htk, by rw [← List.drop_drop, ← List.drop_drop, hdr], H⟩
    | exact ⟨Y.ag, k - 1, by omega, i + 1, m + 1, cur.set m l[i], by omega, rfl, rfl, by omega, by rw [List.length_set]; exact hcl2, by rw [hnx, List.length_append, ← hml]; rfl, by rw [hnx, List.take_succ_eq_append_getElem (by rw [List.length_set]; omega), List.take_set_of_le (Nat.le_refl _), htk, List.getElem_set_self], by rw [List.drop_set_of_lt (by omega), ← List.drop_drop, ← List.drop_drop, hdr], H⟩
  have hpt : p l[i] = true := by simpa using hc8
  rw [if_pos hpt, List.append_nil] at hnx
  refine Y.k<|Y.r<|Y.a rfl<|Y.P rfl<|Y.bz rfl ?_
  first
   | exact ⟨Y.ag, k - 1, by omega, i + 1, m, cur, by omega, rfl, rfl, by omega, hcl2, by rw [hnx]; exact hml, by rw [hnx]; exact htk, by rw [← List.drop_drop, ← List.drop_drop, hdr], H⟩
   | exact ⟨Y.ag, k - 1, by omega, i + 1, m + 1, cur.set m l[i], by omega, rfl, rfl, by omega, by rw [List.length_set]; exact hcl2, by rw [hnx, List.length_append, ← hml]; rfl, by rw [hnx, List.take_succ_eq_append_getElem (by rw [List.length_set]; omega), List.take_set_of_le (Nat.le_refl _), htk, List.getElem_set_self], by rw [List.drop_set_of_lt (by omega), ← List.drop_drop, ← List.drop_drop, hdr], H⟩
 have hi : i = l.length := by simp at hc5; omega
 rw [hi, List.take_length] at htk hml
 refine WP.exit<|XB.hit<|Y.qr<|Y.sS rfl<|Y.a rfl<|Y.v (Ev.sliceFrom2 (j := m) (x7 rfl) (j4 rfl) rfl rfl rfl (by omega) (by omega))<|OPS.clear (b := ⟨g, 3, cur.map I ++ sp⟩) 0 (0 + m * 1) rfl rfl rfl (zs := [I 0]) (x7 rfl) (jd7 rfl) rfl (by decide) rfl rfl (by omega) H rfl (by simp; omega) ?_
 clear H; intro w H
 simp only [List.set_cons_zero] at H
 refine Y.z<|Y.qr<|Y.sS rfl<|Y.a rfl<|Y.v (Ev.sliceTo (j := m) (x7 rfl) ⟨1, j4 rfl⟩ rfl rfl rfl (by omega))<|Y.aS rfl<|Y.z ?_
 refine WP.ret ⟨_, rfl, ?_⟩
 have hpl : ∀ (vs cs : List Value) (k : Nat), (jam cs k vs).length = cs.length := fun vs => by
  induction vs with
  | nil => intro cs k; rfl
  | cons v vs ih => intro cs k; rw [jam, ih, List.length_set]
 refine ⟨(jam (cur.map I ++ sp) (0 + m * 1) (mkL (l.length - m) [I 0])).drop m, by rw [← hml]; rfl, ?_, ?_⟩
 ·rw [← hml, List.length_drop, hpl, List.length_append, List.length_map]; omega
 ·have hpt : ∀ (vs cs : List Value) (k : Nat), m ≤ k → (jam cs k vs).take m = cs.take m := fun vs => by
   induction vs with
   | nil => intro cs k _; rfl
   | cons v vs ih =>
    intro cs k hk
    rw [jam, ih _ _ (by omega), List.take_set_of_le (by omega)]
  have hfin : jam (cur.map I ++ sp) (0 + m * 1) (mkL (l.length - m) [I 0]) = (l.filter fun x => !p x).map I ++ (jam (cur.map I ++ sp) (0 + m * 1) (mkL (l.length - m) [I 0])).drop m := by
   conv => lhs; rw [← List.take_append_drop m (jam (cur.map I ++ sp) (0 + m * 1) (mkL (l.length - m) [I 0]))]
   rw [hpt _ _ _ (by omega), List.take_append_of_le_length (by simp; omega), ← List.map_take, htk]
  rw [← hfin]
  exact H
end Go.Proofs.YtgcokllbophkkaaGreat
namespace Go.Proofs.YtgcokllbophkkaaGreat
open Go Go.W Go.RowKit
theorem MkR.sub {m : Nat} {l : List Edg} {ts : List q9} {ns : List z6} {hd : Int} {j : Nat} {R : List (Int × List Int)} {left : List Int} (h : MkR m l ts ns hd j R left) : left.Sublist (upto ns.length) := by
  induction h with
  | start => exact List.Sublist.refl _
  | skip _ _ ih => exact ih
  | add _ _ _ ih => exact List.filter_sublist.trans ih
theorem MkR.facts {m : Nat} {l : List Edg} {ts : List q9} {ns : List z6} {hd : Int} {j : Nat} {R : List (Int × List Int)} {left : List Int} (h : MkR m l ts ns hd j R left) : left.Nodup ∧ (∀ i ∈ left, 0 ≤ i ∧ i < (ns.length : Int)) ∧ left.length ≤ ns.length := by
  have hs := h.sub
  refine ⟨hs.nodup (jez _), fun i hi => jdZ.1 (hs.subset hi), ?_⟩
  have := hs.length_le
  rwa [jdr] at this
theorem jcR.sub {m : Nat} {l : List Edg} {ts : List q9} {ns : List z6} {hd : Int} {q : Nat} {left x : List Int} (h : jcR m l ts ns hd q left x) : x.Nodup ∧ ∀ i ∈ x, i ∈ left := by
  rcases h with ⟨_, h⟩ | ⟨_, rfl⟩
  · exact h.1.1
  · have := jgC (m := m) (l := l) (ts := ts) (ns := ns) (hd := hd) (q := q) (left := left) left.length jlA.nil
    exact ⟨this.nd, this.sub⟩
theorem jmd {m : Nat} {l : List Edg} {ts : List q9} {ns : List z6} {hd : Int} {q : Nat} {left : List Int} (hE : q7 m l ts ns hd = 0) (hq : q < ts.length) (hnd : left.Nodup) (hin : ∀ i ∈ left, 0 ≤ i ∧ i < (ns.length : Int)) (h6 : left.length ≤ 6) : jcp m l ts ns hd q left = 0 := by
  have hr : y4 ts ns q left = 0 := by
    unfold y4
    rw [if_neg, if_neg (by unfold jaA; simpa using hnd)]
    rintro (h | h)
    · rw [jjv] at h; simp at h; omega
    · obtain ⟨i, h3, h4⟩ := List.any_eq_true.1 h
      have := hin i h3
      rw [jjv] at h4; simp at h4; omega
  rw [jcp, if_neg (by rw [hE]; simp), if_neg (by rw [hr]; simp), if_neg (by omega)]
theorem jeT.route {m : Nat} {l : List Edg} {ts : List q9} {ns : List z6} {hd er r0 : Int} {q : Nat} {left x : List Int} (h : jeT m l ts ns hd q left er r0 x) (hE : q7 m l ts ns hd = 0) (hq : q < ts.length) (hnd : left.Nodup) (hin : ∀ i ∈ left, 0 ≤ i ∧ i < (ns.length : Int)) (h6 : left.length ≤ 6) :
    er = 0 ∧ r0 = q ∧ jcR m l ts ns hd q left x := by
  have h0 := jmd hE hq hnd hin h6
  obtain ⟨m', hm, hk⟩ := jm8 h0
  obtain rfl : m = m' := by omega
  generalize hre : (q : Int) = rt at h
  subst hre
  cases h with
  | no h1 => exact absurd h0 h1
  | ok h1 s hb =>
    refine ⟨rfl, rfl, .inl ⟨h6, ?_⟩⟩
    cases s with
    | none => exact absurd ⟨⟨List.nodup_nil, by simp⟩, hk.nil⟩ (hb [])
    | some y => exact hb
theorem jkc (g m q : Nat) (hd : Int) (A B C F : Option Addr) (l : List Edg) (ts : List q9) (ns : List z6) (left : List Int) (ca cb cc cf : Nat) (w0 : World) (hN : jaE w0 A B C l ts ns cc) (hF : k9 w0 F left)
    (hg : jak w0 g 0 [I m, .slice A l.length ca, .slice B ts.length cb, .slice C ns.length cc, I hd]) (hE : q7 m l ts ns hd = 0) (hq : q < ts.length) (hnd : left.Nodup) (hin : ∀ i ∈ left, 0 ≤ i ∧ i < (ns.length : Int)) (h6 : left.length ≤ 6) :
    Calls Tryz.prog 27 #[.pointer (some ⟨g, 0, none⟩), I q, .slice F left.length cf] w0 fun e w' => ∃ (x : List Int) (X : Option Addr) (c : Nat) (L : List Blk), e = .returned (.agg #[I q, .slice X x.length c]) ∧ jcR m l ts ns hd q left x ∧ OwnS X c x.length (x.map I) 3 1 L ∧ SH w0 [] w' L := by
  have H := SH.refl w0
  refine Calls.ofWPc Tryz.func27 rfl Tryz.results27 Tryz.ntmps27 rfl<|Y.qr<|Y.al H rfl rfl ?_
  clear H; intro g6 w H
  refine Y.z<|Y.qr<|Y.D rfl<|Y.C rfl<|Y.F rfl ?_
  have hg' := k7 H hg
  refine Y.v (by (change Ev _ _ _ _ (Op.load 28 (Operand.tmp 12)) _; exact Ev.loadN [I m, .slice A l.length ca, .slice B ts.length cb, .slice C ns.length cc, I hd] (j6 rfl) (j4 rfl) rfl hg'))<|Y.a rfl<|Y.sS rfl<|Y.c2 16 rfl (jjd m hd q A B C F l ts ns left ca cb cc cf w (hN.sh H).l (hN.sh H).t (hN.sh H).n hN.c (hF.sh H) (by omega)) ?_
  rintro _ w ⟨er, r0, x, X, c, L, rfl, hA, hOX, Hc⟩
  refine ⟨_, rfl, ?_⟩
  replace H := SH.call (L1 := [_]) (Lv := []) H Hc
  clear Hc
  simp only [List.cons_append, List.nil_append] at H
  obtain ⟨rfl, rfl, hR⟩ := hA.route hE hq hnd hin h6
  refine Y.T rfl<|Y.G rfl<|Y.G rfl<|Y.al H rfl rfl ?_
  clear H; intro g7 w H
  refine Y.ss 0 H rfl (cA rfl) rfl ?_
  clear H; intro w H
  refine Y.bz rfl<|Y.qq<|Y.a rfl<|Y.V rfl<|Y.z ?_
  refine WP.cond rfl (fun hc2 => ?_) (fun hc2 => ?_)
  · refine Y.qr<|Y.a rfl<|Y.v (Ev.build (jid rfl))<|Y.ss 1 H rfl (cA rfl) rfl ?_
    clear H; intro w H
    refine Y.z ?_
    refine WP.ret ⟨[_], ⟨(by exact x6 1 H rfl (j6 rfl) (j4 rfl) (by rfl) rfl), trivial⟩, ?_⟩
    exact absurd hc2 (by simp)
  refine Y.k<|Y.qr<|Y.O H 0 rfl<|Y.ss 1 H rfl (cA rfl) rfl ?_
  clear H; intro w H
  refine Y.z ?_
  refine WP.ret ⟨[_], ⟨(by exact x6 1 H rfl (j6 rfl) (j4 rfl) (by rfl) rfl), trivial⟩, ?_⟩
  exact ⟨x, X, c, L, rfl, hR, hOX, H.drop Sb.out⟩
theorem make1 (g c : Nat) (X : Option Addr) (x : List Int) (i : Int) (w0 : World) (hc : w0.cell? ⟨g, 1, none⟩ = some (.slice X x.length c)) (hX : k9 w0 X x) (hl : x.length ≤ maxLen) :
    Calls Tryz.prog 29 #[I i, .pointer (some ⟨g, 0, none⟩)] w0 fun e w' => e = .returned (.bool (decide (i ∈ x))) ∧ Below w0.heap.size w0 w' := by
  have H := SH.refl w0
  refine Calls.ofWP Tryz.func29 rfl Tryz.results29 Tryz.ntmps29 rfl<|Y.qr<|Y.aB rfl<|Y.z<|Y.qr<|Y.F rfl<|Y.v (Y.c (H.ld0 (by assumption)) rfl) ?_
  refine Y.a rfl<|Y.cl 7 rfl (jdk X x c i w0 hX hl) H ?_
  clear H; intro w H
  refine Y.aB rfl<|Y.z ?_
  refine WP.ret ⟨_, rfl, ?_⟩
  exact ⟨rfl, H.below⟩
def rtL (rs : List Rt) : List (Int × List Int) := rs.map fun r => (r.trk, r.nd.l)
theorem jkf (j : Nat) : upto (j + 1) = upto j ++ [(j : Int)] := by unfold upto; rw [List.range_succ, List.map_append]; rfl
set_option maxRecDepth 20000 in
theorem jjP (n hd : Int) (A B C : Option Addr) (l : List Edg) (ts : List q9) (ns : List z6) (ca cb cc : Nat) (w0 : World) (hN : jaE w0 A B C l ts ns cc) :
    Calls Tryz.prog 11 #[.agg #[I n, .slice A l.length ca, .slice B ts.length cb, .slice C ns.length cc, I hd]] w0 fun e w' => ∃ (er : Int) (rs : List Rt) (left : List Int) (P F : Option Addr) (cp cf : Nat) (L : List Blk), e = .returned (.tuple #[.agg #[.slice P rs.length cp, .slice F left.length cf], I er]) ∧ jei l ts ns hd n er (rtL rs) left ∧ left.length ≤ cf ∧ Reads L (fun w => jcs w P rs ∧ k9 w F left) ∧ SH w0 [] w' L := by
  have H := SH.refl w0
  refine Calls.ofWPc Tryz.func11 rfl Tryz.results11 Tryz.ntmps11 rfl<|Y.qr<|Y.bx (cA rfl) H ?_
  clear H; intro g1 w H
  refine Y.al H rfl rfl ?_
  clear H; intro g2 w H
  refine Y.bz rfl<|Y.qq<|Y.O H 1 rfl<|Y.cl 11 rfl (jcA n hd A B C l ts ns ca cb cc w (hN.sh H).l (hN.sh H).t (hN.sh H).n hN.c) H ?_
  clear H; intro w H
  refine Y.bz rfl<|Y.qr<|Y.a rfl<|Y.V rfl<|Y.z ?_
  refine WP.cond rfl (fun hc2 => ?_) (fun hc2 => ?_)
  · refine Y.qr<|Y.v (Ev.build (bld_34_ (e := fun _ => .int .i64 0)))<|Y.a rfl<|Y.ss 0 H rfl (cA rfl) rfl ?_
    clear H; intro w H
    refine Y.bz rfl ?_
    refine WP.ret ⟨[_, _], ⟨(by exact x6 0 H rfl (j6 rfl) (j4 rfl) (by rfl) rfl), rfl, trivial⟩, ?_⟩
    have h : q7 n l ts ns hd ≠ 0 := by simpa using hc2
    exact ⟨_, [], [], none, none, 0, 0, [], rfl, ⟨rfl, fun _ => ⟨rfl, rfl⟩, fun h2 => absurd h2 h⟩, Nat.le_refl _, (fun _ _ _ _ => ⟨⟨k8.nil, by simp, by simp, by simp, by simp⟩, jaa.nil⟩), H.drop Y.sn⟩
  have hE : q7 n l ts ns hd = 0 := by simpa using hc2
  obtain ⟨m, rfl, hK⟩ := jaO hE
  have hnl := hK.nl
  have htl := hK.tl
  refine Y.k<|Y.qr<|Y.al H rfl rfl ?_
  clear H; intro g5 w H
  refine Y.z<|Y.qq<|Y.W H 2 rfl<|Y.E rfl<|Y.a rfl<|Y.z<|WP.block<|WP.loop [6, 19, 20, 21, 22, 23, 24, 25, 26, 27, 28] (fun k e w' => ∃ (j : Nat) (F : Option Addr) (cf : Nat) (Lf : List Blk), j + k = ns.length ∧ e 19 = I j ∧ OwnS F cf j ((upto j).map I) 3 1 Lf ∧ SH w0 [] w' (⟨g5, 34, [.slice none 0 0, .slice F j cf]⟩ :: ⟨g2, 34, [.slice none 0 0, .slice none 0 0]⟩ :: ⟨g1, 28, [I m, .slice A l.length ca, .slice B ts.length cb, .slice C ns.length cc, I hd]⟩ :: Lf)) (ns.length) (⟨0, none, 0, [], by omega, rfl, OwnS.nil, H⟩) ?_
  clear H
  rintro k u w ⟨j, F, cf, Lf, hk, h19, hOF, H⟩
  refine WP.know (t := 19) h19<|Y.qr<|Y.lt rfl<|Y.z<|Y.q ?_
  refine WP.cond rfl (fun hc6 => ?_) (fun hc6 => ?_)
  · have hlt : j < ns.length := by simpa using hc6
    refine Y.k<|Y.q<|WP.block<|Y.qr<|Y.a rfl<|Y.bz rfl<|Y.r<|Y.W H 0 rfl<|Y.a rfl<|OPS.buildSlice rfl rfl rfl rfl (jaJ rfl) H ?_
    clear H; intro g25 w H
    refine OPS.append (m := 1) (news := [I j]) (R := ⟨g25, 3, [I j]⟩ :: ⟨g5, 34, [.slice none 0 0, .slice F j cf]⟩ :: ⟨g2, 34, [.slice none 0 0, .slice none 0 0]⟩ :: ⟨g1, 28, [I m, .slice A l.length ca, .slice B ts.length cb, .slice C ns.length cc, I hd]⟩ :: []) rfl rfl rfl rfl rfl (z8 rfl) rfl rfl hOF rfl (y0 H 0 rfl) rfl (by omega) (by unfold maxLen; omega) H (List.Perm.refl _) ?_
    clear H hOF; intro F cf Lf w hOF H
    replace hOF : OwnS F cf (j + 1) ((upto (j + 1)).map I) 3 1 Lf := by rw [jkf, List.map_append]; exact hOF
    simp only [List.cons_append, List.nil_append] at H
    refine Y.F rfl<|Y.ss 1 H rfl (cS rfl) rfl ?_
    clear H; intro w H
    refine Y.z<|Y.r<|Y.P rfl<|Y.a rfl<|Y.z ?_
    exact ⟨Y.ag, k - 1, by omega, j + 1, F, cf, Lf, by omega, rfl, hOF, H.drop Sb.out⟩
  have hj : j = ns.length := by simp at hc6; omega
  subst hj
  refine WP.exit<|XB.hit<|Y.qq<|Y.W H 2 rfl<|Y.E rfl<|Y.a rfl<|Y.z<|WP.block<|WP.loop [7, 8, 9, 32, 33, 34, 35, 36, 37, 38, 39, 40, 41, 42, 43, 44, 45, 46, 47, 48, 49, 50, 51, 52, 53, 54, 55, 56, 57, 58, 59, 60, 61, 62, 63, 64, 65, 66] (fun k e w' => ∃ (j : Nat) (rs : List Rt) (left : List Int) (P F : Option Addr) (cp cf : Nat) (Lr Ln Lf : List Blk), j + k = ts.length ∧ e 32 = I j ∧ MkR m l ts ns hd j (rtL rs) left ∧ rs.length ≤ j ∧ OwnS P cp rs.length (rs.flatMap jaT) 49 2 Lr ∧ Reads Ln (fun w => ∀ r ∈ rs, k9 w r.nd.A r.nd.l) ∧ (∀ r ∈ rs, r.nd.l.length ≤ r.nd.cap ∧ r.nd.l.length ≤ 1000) ∧ OwnS F cf left.length (left.map I) 3 1 Lf ∧ SH w0 [] w' (⟨g5, 34, [.slice P rs.length cp, .slice F left.length cf]⟩ :: ⟨g2, 34, [.slice none 0 0, .slice none 0 0]⟩ :: ⟨g1, 28, [I m, .slice A l.length ca, .slice B ts.length cb, .slice C ns.length cc, I hd]⟩ :: (Lr ++ (Ln ++ Lf)))) (ts.length) (⟨0, [], upto ns.length, none, F, 0, cf, [], [], Lf, by omega, rfl, MkR.start, by simp, OwnS.nil, (fun _ _ _ _ r hr => by simp at hr), by simp, (by rw [jdr]; exact hOF), (by rw [jdr]; exact H)⟩) ?_
  clear H hOF
  rintro k2 u2 w ⟨j, rs, left, P, F, cp, cf, Lr, Ln, Lf, hk2, h32, hM, hrj, hOP, hRn, hcap, hOF, H⟩
  refine WP.know (t := 32) h32 ?_
  have hfl : left.length ≤ cf := hOF.le
  refine Y.qr<|Y.lt rfl<|Y.z<|Y.q ?_
  refine WP.cond rfl (fun hc11 => ?_) (fun hc11 => ?_)
  · have hlt : j < ts.length := by simpa using hc11
    obtain ⟨hnd, hin, hll⟩ := hM.facts
    refine Y.k<|Y.q<|WP.block<|Y.qr<|Y.a rfl<|Y.bz rfl<|Y.qr<|Y.O H 2 rfl<|Y.v (Ev.build (jme rfl))<|Y.al H rfl rfl ?_
    clear H; intro g8 w H
    refine Y.ss 0 H rfl (cA rfl) rfl ?_
    clear H; intro w H
    refine Y.z<|Y.qr<|Y.v (Ev.makeFunc)<|Y.F rfl<|Y.ss 0 H rfl (cF rfl) rfl ?_
    clear H; intro w H
    refine Y.z<|Y.qq<|Y.W H 1 rfl<|Y.E rfl<|Y.v (Ev.leq rfl rfl)<|Y.z ?_
    refine WP.cut [43, 44] (fun _ w' => ∃ f : Nat, (f = 26 ∧ 6 < left.length ∨ f = 27 ∧ left.length ≤ 6) ∧ SH w0 [] w' (⟨g8, 58, [I m, .slice A l.length ca, .slice B ts.length cb, .slice C ns.length cc, I hd, Value.func (.func f) #[Value.pointer (some ⟨g8, 0, none⟩)] #[]]⟩ :: ⟨g5, 34, [.slice P rs.length cp, .slice F left.length cf]⟩ :: ⟨g2, 34, [.slice none 0 0, .slice none 0 0]⟩ :: ⟨g1, 28, [I m, .slice A l.length ca, .slice B ts.length cb, .slice C ns.length cc, I hd]⟩ :: (Lr ++ (Ln ++ Lf)))) ?_ ?_
    · refine WP.cond rfl (fun hc15 => ?_) (fun hc15 => ?_)
      · have h6 : left.length ≤ 6 := by have : (left.length : Int) ≤ 6 := by simpa using hc15
                                        omega
        refine Y.r<|Y.v (Ev.makeFunc)<|Y.F rfl<|Y.ss 0 H rfl (cF rfl) rfl ?_
        clear H; intro w H
        refine Y.z ?_
        first
          | exact ⟨Y.ag, _, .inr ⟨rfl, h6⟩, H⟩
          | exact ⟨Y.ag, _, .inl ⟨rfl, h6⟩, H⟩
      have h6 : 6 < left.length := by have : ¬ (left.length : Int) ≤ 6 := by simpa using hc15
                                      omega
      refine Y.k ?_
      first
        | exact ⟨Y.ag, _, .inr ⟨rfl, h6⟩, H⟩
        | exact ⟨Y.ag, _, .inl ⟨rfl, h6⟩, H⟩
    clear H
    rintro u3 w ⟨f, hf, H⟩
    have hfun : jhU f = true := by rcases hf with ⟨rfl, _⟩ | ⟨rfl, _⟩ <;> rfl
    have hcall : ∀ w, SH w0 [] w (⟨g8, 58, [I m, .slice A l.length ca, .slice B ts.length cb, .slice C ns.length cc, I hd, Value.func (.func f) #[Value.pointer (some ⟨g8, 0, none⟩)] #[]]⟩ :: ⟨g5, 34, [.slice P rs.length cp, .slice F left.length cf]⟩ :: ⟨g2, 34, [.slice none 0 0, .slice none 0 0]⟩ :: ⟨g1, 28, [I m, .slice A l.length ca, .slice B ts.length cb, .slice C ns.length cc, I hd]⟩ :: (Lr ++ (Ln ++ Lf))) → Calls Tryz.prog f [.pointer (some ⟨g8, 0, none⟩), I j, .slice F left.length cf].toArray w fun e w' => ∃ (x : List Int) (X : Option Addr) (c : Nat) (L : List Blk), e = .returned (.agg #[I j, .slice X x.length c]) ∧ jcR m l ts ns hd j left x ∧ OwnS X c x.length (x.map I) 3 1 L ∧ SH w [] w' L := fun w H => by
      have hcs : jak w g8 0 [I m, .slice A l.length ca, .slice B ts.length cb, .slice C ns.length cc, I hd] := jas H 0 rfl _ 0 (by
        intro i hi
        match i, hi with
        | 0, _ => rfl
        | 1, _ => rfl
        | 2, _ => rfl
        | 3, _ => rfl
        | 4, _ => rfl
        | i + 5, hi => exact absurd hi (by simp))
      have hFi := (hOF.ones (R := []) (H.drop (L' := Lf) Sb.out)).1
      rcases hf with ⟨rfl, h6⟩ | ⟨rfl, h6⟩
      · exact (jiJ g8 m j hd A B C F l ts ns left ca cb cc cf w (hN.sh H) hFi hcs hK hlt hin (by omega)).mono fun e w' ⟨x, X, c, L, h1, h2, h3, h4⟩ => ⟨x, X, c, L, h1, .inr ⟨h6, h2⟩, h3, h4⟩
      · exact jkc g8 m j hd A B C F l ts ns left ca cb cc cf w (hN.sh H) hFi hcs hE hlt hnd hin h6
    refine Y.qr<|Y.W H 0 rfl<|Y.a rfl<|Y.W H 1 rfl<|OPS.call (d := some 50) rfl rfl rfl (EvC.clos rfl (z7 (by assumption))) (hcall w H) ?_
    rintro _ w ⟨x, X, c, Lx, rfl, hR, hOX, Hc⟩
    refine ⟨_, rfl, ?_⟩
    replace H := SH.call (L1 := _) (Lv := []) (by rw [List.append_nil]; exact H) Hc
    clear Hc
    simp only [List.cons_append] at H
    have hxs := hR.sub
    have hxl : x.length ≤ left.length := hxs.1.length_le_of_subset hxs.2
    have hxc := hOX.le
    refine Y.al H rfl rfl ?_
    clear H; intro g9 w H
    refine Y.ss 0 H rfl (cA rfl) rfl ?_
    clear H; intro w H
    refine Y.z<|Y.qr<|Y.W H 0 rfl<|Y.E rfl<|Y.v (Ev.gtr rfl rfl)<|Y.z ?_
    refine WP.cond rfl (fun hc18 => ?_) (fun hc18 => ?_)
    · have hx0 : x ≠ [] := by
        rintro rfl
        simp at hc18
      have hflat : (rs ++ [(⟨(j : Int), ⟨X, c, x⟩⟩ : Rt)]).flatMap jaT = rs.flatMap jaT ++ [I j, .slice X x.length c] := by rw [List.flatMap_append]; rfl
      obtain ⟨gf, sp, rfl, rfl, _, hcm, hcl⟩ : ∃ g sp, F = some ⟨g, 0, none⟩ ∧ Lf = [⟨g, 3, left.map I ++ sp⟩] ∧ left.length ≤ cf ∧ cf ≤ maxLen ∧ (left.map I ++ sp).length = cf * 1 := by
        rcases hOF.form with ⟨_, h, _, _⟩ | h
        · have h0 : x.length = 0 := by omega
          exact absurd (List.length_eq_zero_iff.1 h0) hx0
        · exact h
      refine Y.qr<|Y.W H 2 rfl<|Y.O H 0 rfl<|OPS.buildSlice rfl rfl rfl rfl (jfP rfl) H ?_
      clear H; intro g58 w H
      refine OPS.append (m := 1) (news := [I j, .slice X x.length c]) (R := ⟨g58, 49, [I j, .slice X x.length c]⟩ :: ⟨g9, 49, [I j, .slice X x.length c]⟩ :: ⟨g8, 58, [I m, .slice A l.length ca, .slice B ts.length cb, .slice C ns.length cc, I hd, Value.func (.func f) #[Value.pointer (some ⟨g8, 0, none⟩)] #[]]⟩ :: ⟨g5, 34, [.slice P rs.length cp, .slice (some ⟨gf, 0, none⟩) left.length cf]⟩ :: ⟨g2, 34, [.slice none 0 0, .slice none 0 0]⟩ :: ⟨g1, 28, [I m, .slice A l.length ca, .slice B ts.length cb, .slice C ns.length cc, I hd]⟩ :: (Ln ++ [⟨gf, 3, left.map I ++ sp⟩] ++ Lx)) rfl rfl rfl rfl rfl (z8 rfl) rfl rfl hOP rfl (y0 H 0 rfl) rfl (by omega) (by unfold maxLen; omega) H (by exact jio fun f => by simp <;> omega) ?_
      clear H hOP; intro P cp Lr w hOP H
      rw [← hflat] at hOP
      simp only [List.cons_append] at H
      have hlp : (rs ++ [(⟨(j : Int), ⟨X, c, x⟩⟩ : Rt)]).length = rs.length + 1 := by simp
      refine Y.F rfl<|Y.ss 3 H rfl (cS rfl) rfl ?_
      clear H; intro w H
      refine Y.z ?_
      have HA : SH w0 [] w ((⟨g9, 49, [I j, .slice X x.length c]⟩ :: ⟨g5, 34, [.slice P (rs.length + 1) cp, .slice (some ⟨gf, 0, none⟩) left.length cf]⟩ :: ⟨g2, 34, [.slice none 0 0, .slice none 0 0]⟩ :: ⟨g1, 28, [I m, .slice A l.length ca, .slice B ts.length cb, .slice C ns.length cc, I hd]⟩ :: (Lr ++ (Ln ++ Lx))) ++ [⟨gf, 3, left.map I ++ sp⟩]) :=
        (H.drop (List.Sublist.cons _ (List.Sublist.cons_cons _ (List.Sublist.cons _ (List.Sublist.refl _))))).perm (by exact jio fun f => by simp <;> omega)
      clear H
      have hdel : ∀ (cs : List Value) (w2 : World), SH w [gf] w2 [⟨gf, 3, cs⟩] → ∀ i : Int, Calls Tryz.prog 29 ([(I i : Value)] ++ [Value.pointer (some ⟨g9, 0, none⟩)]).toArray w2 fun e w' => e = .returned (.bool (decide (i ∈ x))) ∧ Below w2.heap.size w2 w' := fun cs w2 h2 i => by
        have H2 := SH.call HA h2
        exact make1 g9 c X x i w2 (H2.ldL 0 rfl 1 rfl) (hOX.ones (R := []) (H2.drop (L' := Lx) Sb.out)).1 (by unfold maxLen; omega)
      have hdc := jlL gf left sp cf 29 [Value.pointer (some ⟨g9, 0, none⟩)] (fun i => decide (i ∈ x)) w (HA.restart Y.sr) (by omega) hfl rfl hdel
      have H := HA
      refine Y.r<|Y.W H 1 rfl<|Y.v (Ev.makeFunc)<|Y.c2 64 rfl (hdc) ?_
      rintro _ w ⟨sp2, rfl, hl2, Hc⟩
      refine ⟨_, rfl, ?_⟩
      replace H := SH.call HA Hc
      clear Hc HA hdel hdc
      simp only [List.cons_append] at H
      refine Y.F rfl<|Y.ss 1 H rfl (cS rfl) rfl ?_
      clear H; intro w H
      refine Y.z ?_
      have hrd : ∃ (rs' : List Rt) (left' : List Int) (P' F' : Option Addr) (cp' cf' : Nat) (Lr' Ln' Lf' : List Blk), MkR m l ts ns hd (j + 1) (rtL rs') left' ∧ rs'.length ≤ j + 1 ∧ OwnS P' cp' rs'.length (rs'.flatMap jaT) 49 2 Lr' ∧ Reads Ln' (fun w => ∀ r ∈ rs', k9 w r.nd.A r.nd.l) ∧ (∀ r ∈ rs', r.nd.l.length ≤ r.nd.cap ∧ r.nd.l.length ≤ 1000) ∧ OwnS F' cf' left'.length (left'.map I) 3 1 Lf' ∧ SH w0 [] w (⟨g5, 34, [.slice P' rs'.length cp', .slice F' left'.length cf']⟩ :: ⟨g2, 34, [.slice none 0 0, .slice none 0 0]⟩ :: ⟨g1, 28, [I m, .slice A l.length ca, .slice B ts.length cb, .slice C ns.length cc, I hd]⟩ :: (Lr' ++ (Ln' ++ Lf'))) :=
        ⟨rs ++ [⟨j, ⟨X, c, x⟩⟩], left.filter fun i => !decide (i ∈ x), P, some ⟨gf, 0, none⟩, cp, cf, Lr, Ln ++ Lx, [⟨gf, 3, (left.filter fun i => !decide (i ∈ x)).map I ++ sp2⟩], by
          have := MkR.add hM hR hx0
          unfold rtL
          rw [List.map_append]
          exact this, by rw [hlp]; omega, by rw [hlp]; exact hOP, (fun w0 S w H r hr => by
          rcases List.mem_append.1 hr with hr | hr
          · exact hRn.at H Y.sl r hr
          · simp at hr; subst hr
            exact (hOX.ones (R := []) (H.drop Y.sr)).1), (fun r hr => by
          rcases List.mem_append.1 hr with hr | hr
          · exact hcap r hr
          · simp at hr; subst hr
            exact ⟨hxc, by show x.length ≤ 1000; omega⟩), ⟨by simp, .inr ⟨gf, sp2, rfl, rfl, by have := List.length_filter_le (fun i => !decide (i ∈ x)) left; omega, hcm, by
            rw [List.length_append, List.length_map] at hcl ⊢
            omega⟩⟩, by
          rw [hlp]
          exact (Y.d1 H).perm (by exact jio fun f => by simp <;> omega)⟩
      refine Y.r<|Y.P rfl<|Y.a rfl<|Y.z ?_
      obtain ⟨rs', left', P', F', cp', cf', Lr', Ln', Lf', h1, h2, h3, h4, h5, h6', h7⟩ := hrd
      exact ⟨Y.ag, k2 - 1, by omega, j + 1, rs', left', P', F', cp', cf', Lr', Ln', Lf', by omega, rfl, h1, h2, h3, h4, h5, h6', h7⟩
    have hx0 : x = [] := by
      cases x with
      | nil => rfl
      | cons a t => simp at hc18
    subst hx0
    have hrd : ∃ (rs' : List Rt) (left' : List Int) (P' F' : Option Addr) (cp' cf' : Nat) (Lr' Ln' Lf' : List Blk), MkR m l ts ns hd (j + 1) (rtL rs') left' ∧ rs'.length ≤ j + 1 ∧ OwnS P' cp' rs'.length (rs'.flatMap jaT) 49 2 Lr' ∧ Reads Ln' (fun w => ∀ r ∈ rs', k9 w r.nd.A r.nd.l) ∧ (∀ r ∈ rs', r.nd.l.length ≤ r.nd.cap ∧ r.nd.l.length ≤ 1000) ∧ OwnS F' cf' left'.length (left'.map I) 3 1 Lf' ∧ SH w0 [] w (⟨g5, 34, [.slice P' rs'.length cp', .slice F' left'.length cf']⟩ :: ⟨g2, 34, [.slice none 0 0, .slice none 0 0]⟩ :: ⟨g1, 28, [I m, .slice A l.length ca, .slice B ts.length cb, .slice C ns.length cc, I hd]⟩ :: (Lr' ++ (Ln' ++ Lf'))) :=
      ⟨rs, left, P, F, cp, cf, Lr, Ln, Lf, MkR.skip hM hR, by omega, hOP, hRn, hcap, hOF, H.drop (by refine List.Sublist.cons _ (List.Sublist.cons _ ?_); exact Sb.out)⟩
    refine Y.k<|Y.r<|Y.P rfl<|Y.a rfl<|Y.z ?_
    obtain ⟨rs', left', P', F', cp', cf', Lr', Ln', Lf', h1, h2, h3, h4, h5, h6', h7⟩ := hrd
    exact ⟨Y.ag, k2 - 1, by omega, j + 1, rs', left', P', F', cp', cf', Lr', Ln', Lf', by omega, rfl, h1, h2, h3, h4, h5, h6', h7⟩
  refine WP.exit<|XB.hit<|Y.qr<|Y.O H 0 rfl<|Y.ss 1 H rfl (cA rfl) rfl ?_
  clear H; intro w H
  refine Y.bz rfl ?_
  refine WP.ret ⟨[_, _], ⟨(by exact x6 1 H rfl (j6 rfl) (j4 rfl) (by rfl) rfl), rfl, trivial⟩, ?_⟩
  have hj : j = ts.length := by simp at hc11; omega
  subst hj
  refine ⟨_, rs, left, P, F, cp, cf, Lr ++ (Ln ++ Lf), rfl, ⟨hE.symm, fun h => absurd rfl h, fun _ => ⟨m, rfl, hM⟩⟩, hfl, (fun w0 S w H => ⟨⟨(hOP.rows (R := []) jeR (by omega) (H.drop Y.sl)).1, hRn.at H ((List.sublist_append_left Ln Lf).trans Y.sr), fun r hr => (hcap r hr).1, fun r hr => (hcap r hr).2, by omega⟩, (hOF.ones (R := []) (H.drop ((List.sublist_append_right Ln Lf).trans Y.sr))).1⟩), H.drop Sb.out⟩
end Go.Proofs.YtgcokllbophkkaaGreat
namespace Go.Proofs.YtgcokllbophkkaaGreat
open Go Go.W Go.RowKit
noncomputable def jlC (n : Int) (l : List Edg) (ts : List q9) (ns : List z6) (hd : Int) (rs : List Rt) (left : List Int) : Int := if jab n l ts ns hd rs left = 0 then mvL ns left else 0
noncomputable def jiD (n : Int) (l : List Edg) (ts : List q9) (ns : List z6) (hd : Int) (rs : List Rt) (left : List Int) : Int := if jab n l ts ns hd rs left = 0 then jfp n l ts ns hd rs else 0
theorem jg2.left {n : Int} {l : List Edg} {ts : List q9} {ns : List z6} {hd : Int} {rs : List Rt} {left : List Int} (h : jg2 n l ts ns hd rs left) : ∀ i ∈ left, 0 ≤ i ∧ i < (ns.length : Int) := fun i hi => by
 have h1 := h.good
 unfold jbm at h1
 rw [Bool.and_eq_true, decide_eq_true_eq] at h1
 exact h1.1 i (List.mem_append_right _ hi)
theorem jg2.moves {n : Int} {l : List Edg} {ts : List q9} {ns : List z6} {hd : Int} {rs : List Rt} {left : List Int} (h : jg2 n l ts ns hd rs left) : ∀ x ∈ ns, -32 ≤ x.move ∧ x.move ≤ 32 := fun x hx => by
 obtain ⟨m, _, hN⟩ := jaO h.night
 exact (hN.nd x hx).2.2
theorem jdT (n hd : Int) (A B C P F : Option Addr) (l : List Edg) (ts : List q9) (ns : List z6) (rs : List Rt) (left : List Int) (ca cb cc cp cf : Nat) (w0 : World) (hN : jaE w0 A B C l ts ns cc)
  (hP : jcs w0 P rs) (hF : k9 w0 F left) (hfl : left.length ≤ 1000) (hnl : ns.length ≤ 1000) :
  Calls Tryz.prog 15 #[.agg #[I n, .slice A l.length ca, .slice B ts.length cb, .slice C ns.length cc, I hd], .agg #[.slice P rs.length cp, .slice F left.length cf]] w0 fun e w' =>
   e = .returned (.tuple #[I (jlC n l ts ns hd rs left), I (jiD n l ts ns hd rs left), I (jab n l ts ns hd rs left)]) ∧ Below w0.heap.size w0 w' := by
 have H := SH.refl w0
 have hfew := hP.few
 refine Calls.ofWP Tryz.func15 rfl Tryz.results15 Tryz.ntmps15 rfl<|Y.qr<|Y.bx (cA rfl) H ?_
 clear H; intro g2 w H
 refine Y.bx (cA rfl) H ?_
 clear H; intro g3 w H
 refine Y.b rfl<|Y.b rfl<|Y.bz rfl<|Y.qq<|Y.O H 1 rfl<|Y.O H 0 rfl<|Y.cl 18 rfl (jf0 n hd A B C P F l ts ns rs left ca cb cc cp cf w (hN.sh H).l (hN.sh H).t (hN.sh H).n hN.c (hP.sh H) (hF.sh H) hfl hnl) H ?_
 clear H; intro w H
 refine Y.bz rfl<|Y.qr<|Y.a rfl<|Y.V rfl<|Y.z ?_
 refine WP.cond rfl (fun hc2 => ?_) (fun hc2 => ?_)
 ·refine Y.qr<|Y.a rfl<|Y.b rfl<|Y.b rfl<|Y.bz rfl ?_
  refine WP.ret ⟨_, rfl, ?_⟩
  have h : jab n l ts ns hd rs left ≠ 0 := by simpa using hc2
  exact ⟨by rw [jlC, jiD, if_neg h, if_neg h]; rfl, H.below⟩
 have h0 : jab n l ts ns hd rs left = 0 := by simpa using hc2
 have hK := jdK h0
 have hm := hK.moves
 rw [jlC, jiD, if_pos h0, if_pos h0, h0]
 refine Y.k<|Y.qr<|Y.b rfl<|Y.bz rfl<|Y.qq<|Y.W H 0 rfl<|Y.E rfl<|Y.a rfl<|Y.z<|WP.block<|WP.loop [8, 11, 25, 26, 27, 28, 29, 30, 31, 32, 33, 34, 35, 36, 37, 38, 39, 40, 41, 42, 43, 44, 45] (fun k e w' => ∃ j : Nat, j + k = left.length ∧ e 25 = I j ∧ e 8 = I (mvL ns (left.take j)) ∧ SH w0 [] w' [⟨g3, 34, [.slice P rs.length cp, .slice F left.length cf]⟩, ⟨g2, 28, [I n, .slice A l.length ca, .slice B ts.length cb, .slice C ns.length cc, I hd]⟩]) (left.length) (⟨0, by omega, rfl, rfl, H⟩) ?_
 clear H
 rintro k u w ⟨j, hk, h25, h8, H⟩
 refine WP.know (t := 25) h25 (WP.know (t := 8) h8 ?_)
 refine Y.qr<|Y.lt rfl<|Y.z<|Y.q ?_
 refine WP.cond rfl (fun hc6 => ?_) (fun hc6 => ?_)
 ·have hlt : j < left.length := by simpa using hc6
  obtain ⟨br, orr, rfl, hx⟩ := hF j hlt
  have hir := hK.left left[j] (List.getElem_mem hlt)
  obtain ⟨i, hi⟩ := Int.eq_ofNat_of_zero_le hir.1
  rw [hi] at hx
  have hil : i < ns.length := by omega
  obtain ⟨bn, on, rfl, hy⟩ := hN.n i hil
  have hmv := hm ns[i] (List.getElem_mem hil)
  have hbd := jh9 hm (left.take j)
  have htl : (left.take j).length = j := by rw [List.length_take]; omega
  have hsn := jfV ns (left.take j) left[j]
  rw [← List.take_succ_eq_append_getElem hlt, hi, jcY hil] at hsn
  generalize ns[i] = x at *
  refine Y.k<|Y.q<|WP.block<|Y.qr<|Y.I rfl<|Y.v (Y.c (H.ld0 (by assumption)) rfl) ?_
  refine Y.bz rfl<|WP.rstill mixed (by kernel_rfl) H ?_
  clear H; intro w hbw8 H
  obtain ⟨q1, q2, _⟩ := k7 H hy
  refine Y.a rfl<|Y.W H 1 rfl<|Y.a rfl<|Y.U rfl<|Y.F rfl<|Y.v (Y.c (by assumption) rfl) ?_
  refine Y.W H 1 rfl<|Y.a rfl<|Y.U rfl<|Y.F rfl<|Y.v (Y.c (by assumption) rfl) ?_
  refine Y.v (Ev.neg rfl (by unfold fits; omega))<|Y.v (Ev.max rfl rfl)<|Y.P rfl<|Y.b rfl<|OPS.nil_s<|Y.r<|Y.P rfl<|Y.a rfl<|Y.z ?_
  exact ⟨Y.ag, k - 1, by omega, j + 1, by omega, rfl, (by rw [hsn]; rfl), H⟩
 have hj : j = left.length := by simp at hc6; omega
 rw [hj, List.take_length]
 refine WP.exit<|XB.hit<|Y.qq<|Y.W H 0 rfl<|Y.E rfl<|Y.a rfl<|Y.z<|WP.block<|WP.loop [4, 5, 6, 9, 13, 14, 15, 49, 50, 51, 52, 53, 54, 55, 56, 57, 58, 59, 60, 61, 62, 63, 64, 65] (fun k e w' => ∃ j : Nat, j + k = rs.length ∧ e 49 = I j ∧ e 9 = I (jfp n l ts ns hd (rs.take j)) ∧ (0 ≤ jfp n l ts ns hd (rs.take j) ∧ jfp n l ts ns hd (rs.take j) ≤ 2000000 * j) ∧ SH w0 [] w' [⟨g3, 34, [.slice P rs.length cp, .slice F left.length cf]⟩, ⟨g2, 28, [I n, .slice A l.length ca, .slice B ts.length cb, .slice C ns.length cc, I hd]⟩]) (rs.length) (⟨0, by omega, rfl, rfl, by simp [jfp], H⟩) ?_
 clear H
 rintro k2 u2 w ⟨j2, hk2, h49, h9, hbd2, H⟩
 refine WP.know (t := 49) h49 (WP.know (t := 9) h9 ?_)
 refine Y.qr<|Y.lt rfl<|Y.z<|Y.q ?_
 refine WP.cond rfl (fun hc11 => ?_) (fun hc11 => ?_)
 ·have hlt2 : j2 < rs.length := by simpa using hc11
  obtain ⟨b, o, rfl, hc⟩ := hP.rows j2 hlt2
  have hr := hP.ints rs[j2] (List.getElem_mem hlt2)
  have hrl := hP.len rs[j2] (List.getElem_mem hlt2)
  have hrc := hP.cap rs[j2] (List.getElem_mem hlt2)
  have hE := hK.walks j2 hlt2
  have hob := jhm hE
  refine Y.k<|Y.q<|WP.block<|Y.qr<|Y.U rfl<|Y.v (Ev.loadN (jaT rs[j2]) (j6 rfl) (j4 rfl) rfl (k7 H hc))<|Y.al H rfl rfl ?_
  clear H; intro g13 w H
  refine Y.ss 0 H rfl (cA rfl) rfl ?_
  clear H; intro w H
  refine Y.z<|Y.qr<|Y.O H 2 rfl<|Y.O H 0 rfl<|Y.cl 56 rfl (jeE n hd rs[j2].trk A B C rs[j2].nd.A l ts ns rs[j2].nd.l ca cb cc rs[j2].nd.cap _ (hN.sh H).l (hN.sh H).t (hN.sh H).n hN.c (hr.sh H) (by unfold maxLen; omega) hrc) H ?_
  clear H; intro w H
  refine Y.T rfl<|Y.G rfl<|Y.G rfl<|Y.b rfl<|Y.bz rfl<|Y.qq<|Y.a rfl<|Y.V rfl<|Y.z ?_
  refine WP.cond rfl (fun hc14 => ?_) (fun hc14 => ?_)
  ·refine Y.qr<|Y.a rfl<|Y.b rfl<|Y.b rfl<|Y.bz rfl ?_
   refine WP.ret ⟨_, rfl, ?_⟩
   exact absurd hc14 (by simp [hE])
  refine Y.k<|Y.r<|Y.a rfl<|Y.a rfl<|Y.P rfl<|Y.bz rfl<|Y.r<|Y.P rfl<|Y.a rfl<|Y.z ?_
  exact ⟨Y.ag, k2 - 1, by omega, j2 + 1, by omega, rfl, by rw [jdJ hlt2]; rfl, by rw [jdJ hlt2]; omega, H.drop Y.sc⟩
 have hj2 : j2 = rs.length := by simp at hc11; omega
 rw [hj2, List.take_length]
 refine WP.exit<|XB.hit<|Y.qr<|Y.a rfl<|Y.a rfl<|Y.b rfl<|Y.b rfl<|Y.bz rfl ?_
 refine WP.ret ⟨_, rfl, ?_⟩
 exact ⟨rfl, H.below⟩
end Go.Proofs.YtgcokllbophkkaaGreat
namespace Go.Proofs.YtgcokllbophkkaaGreat
open Go Go.W Go.RowKit
noncomputable def jfA (n : Int) (l : List Edg) (ts : List q9) (ns : List z6) (hd : Int) (rs : List Rt) (left : List Int) : Int :=
 if jab n l ts ns hd rs left ≠ 0 then jab n l ts ns hd rs left else if left ≠ [] then 26 else jav n l ts ns hd
structure jk1 (n : Int) (l : List Edg) (ts : List q9) (ns : List z6) (hd : Int) (rs : List Rt) (left : List Int) (x : Int) : Prop where
 bad : jfA n l ts ns hd rs left ≠ 0 → x = 0
 good : jfA n l ts ns hd rs left = 0 → jab n l ts ns hd rs left = 0 ∧ left = [] ∧ jav n l ts ns hd = 0 ∧ ∃ (s b : Int) (us vs : List Int), jeq n l ts ns hd s b us vs ∧ x = jfp n l ts ns hd rs - s
theorem jhG {n hd : Int} {l : List Edg} {ts : List q9} {ns : List z6} : ∀ (rs : List Rt), (∀ i (h : i < rs.length), y7 n l ts ns hd rs[i].trk rs[i].nd.l = 0) → 0 ≤ jfp n l ts ns hd rs ∧ jfp n l ts ns hd rs ≤ 2000000 * rs.length
 | [], _ => by simp [jfp]
 | r :: rs, h => by
  have h1 := jhG rs fun i hi => h (i + 1) (by simpa using hi)
  have h2 := jhm (h 0 (by simp))
  simp only [jfp, List.map_cons, List.sum_cons, List.length_cons, List.getElem_cons_zero] at h1 h2 ⊢
  omega
theorem jeq.secs {n hd s b : Int} {l : List Edg} {ts : List q9} {ns : List z6} {us vs : List Int} (h : jeq n l ts ns hd s b us vs) : 0 ≤ s ∧ s ≤ 1125899906842624 := by
 by_cases he : jav n l ts ns hd = 0
 ·obtain ⟨m, T, rfl, hK, hS, rfl, _, h3⟩ := h.good he
  have h1 := hS.tn
  have h2 := jh1 hK
  unfold jcn
  split
  ·omega
  ·have h4 := Int.ediv_le_self (a := T + jbx ts - 1) (jbx ts) (by omega)
   have h5 := Int.ediv_nonneg (a := T + jbx ts - 1) (b := jbx ts) (by omega) (by omega)
   omega
 ·obtain ⟨rfl, _⟩ := h.bad he
  omega
theorem jny (n hd : Int) (A B C P F : Option Addr) (l : List Edg) (ts : List q9) (ns : List z6) (rs : List Rt) (left : List Int) (ca cb cc cp cf : Nat) (w0 : World) (hN : jaE w0 A B C l ts ns cc)
  (hP : jcs w0 P rs) (hF : k9 w0 F left) (hfl : left.length ≤ 1000) (hnl : ns.length ≤ 1000) :
  Calls Tryz.prog 17 #[.agg #[I n, .slice A l.length ca, .slice B ts.length cb, .slice C ns.length cc, I hd], .agg #[.slice P rs.length cp, .slice F left.length cf]] w0 fun e w' =>
   ∃ x, e = .returned (.tuple #[I x, I (jfA n l ts ns hd rs left)]) ∧ jk1 n l ts ns hd rs left x ∧ Below w0.heap.size w0 w' := by
 have H := SH.refl w0
 have hfew := hP.few
 refine Calls.ofWP Tryz.func17 rfl Tryz.results17 Tryz.ntmps17 rfl<|Y.qr<|Y.bx (cA rfl) H ?_
 clear H; intro g2 w H
 refine Y.bx (cA rfl) H ?_
 clear H; intro g3 w H
 refine Y.b rfl<|Y.bz rfl<|Y.qr<|Y.O H 1 rfl<|Y.O H 0 rfl<|Y.cl 13 rfl (jdT n hd A B C P F l ts ns rs left ca cb cc cp cf w (hN.sh H) (hP.sh H) (hF.sh H) hfl hnl) H ?_
 clear H; intro w H
 refine Y.T rfl<|Y.G rfl<|Y.G rfl<|Y.G rfl<|Y.b rfl<|Y.b rfl<|Y.bz rfl<|Y.qq<|Y.a rfl<|Y.V rfl<|Y.z ?_
 refine WP.cond rfl (fun hc2 => ?_) (fun hc2 => ?_)
 ·refine Y.qr<|Y.a rfl<|Y.b rfl<|Y.bz rfl ?_
  refine WP.ret ⟨_, rfl, ?_⟩
  have h : jab n l ts ns hd rs left ≠ 0 := by simpa using hc2
  have hg : jfA n l ts ns hd rs left = jab n l ts ns hd rs left := if_pos h
  exact ⟨0, by rw [hg]; rfl, ⟨fun _ => rfl, fun h2 => absurd (hg ▸ h2) h⟩, H.below⟩
 have h0 : jab n l ts ns hd rs left = 0 := by simpa using hc2
 have hK := jdK h0
 have hd0 := jhG rs hK.walks
 refine Y.k<|Y.qq<|Y.W H 0 rfl<|Y.E rfl<|Y.v (Ev.gtr rfl rfl)<|Y.z ?_
 refine WP.cond rfl (fun hc4 => ?_) (fun hc4 => ?_)
 ·refine Y.qr<|Y.b rfl<|Y.bz rfl ?_
  refine WP.ret ⟨_, rfl, ?_⟩
  have h : left ≠ [] := by
   rintro rfl
   simp at hc4
  have hg : jfA n l ts ns hd rs left = 26 := by rw [jfA, if_neg (by simp [h0]), if_pos h]
  exact ⟨0, by rw [hg]; rfl, ⟨fun _ => rfl, fun h2 => absurd (hg ▸ h2) (by decide)⟩, H.below⟩
 have h1 : left = [] := by
  cases left with
  | nil => rfl
  | cons a t => simp at hc4
 subst h1
 have hg : jfA n l ts ns hd rs [] = jav n l ts ns hd := by rw [jfA, if_neg (by simp [h0]), if_neg (by simp)]
 refine Y.k<|Y.qr<|Y.O H 1 rfl<|Y.c2 26 rfl (jlb n hd A B C l ts ns ca cb cc w (hN.sh H)) ?_
 rintro _ w ⟨s, b, us, vs, AU, AV, cu, cv, L, rfl, hR, hrd, Hc⟩
 refine ⟨_, rfl, ?_⟩
 replace H := SH.call (Lv := []) (by rw [List.append_nil]; exact H) Hc
 clear Hc
 refine Y.T rfl<|Y.G rfl<|Y.G rfl<|Y.al H rfl rfl ?_
 clear H; intro g9 w H
 refine Y.ss 0 H rfl (cA rfl) rfl ?_
 clear H; intro w H
 refine Y.bz rfl<|Y.qq<|Y.a rfl<|Y.V rfl<|Y.z ?_
 refine WP.cond rfl (fun hc7 => ?_) (fun hc7 => ?_)
 ·refine Y.qr<|Y.a rfl<|Y.b rfl<|Y.bz rfl ?_
  refine WP.ret ⟨_, rfl, ?_⟩
  have h2 : jav n l ts ns hd ≠ 0 := by simpa using hc7
  exact ⟨0, by rw [hg]; rfl, ⟨fun _ => rfl, fun h3 => absurd (hg ▸ h3) h2⟩, H.below⟩
 have h2 : jav n l ts ns hd = 0 := by simpa using hc7
 have hsb := hR.secs
 have hvd : jiD n l ts ns hd rs [] = jfp n l ts ns hd rs := if_pos h0
 unfold jcN at H
 refine Y.k<|Y.qr<|Y.a rfl<|Y.W H 0 rfl<|Y.Q rfl<|Y.b rfl<|Y.bz rfl ?_
 refine WP.ret ⟨_, rfl, ?_⟩
 exact ⟨jiD n l ts ns hd rs [] - s, by rw [hg, h2]; rfl, ⟨fun h3 => absurd (hg.trans h2) h3, fun _ => ⟨h0, rfl, h2, s, b, us, vs, hR, by rw [hvd]⟩⟩, H.below⟩
def betB (eA eB lA lB dA dB : Int) : Bool := decide (eA = 0) && (decide (eB = 0) && (decide (lA < lB) || (decide (lA = lB) && decide (dA < dB))))
theorem jks (n hd : Int) (A B C P F P2 F2 : Option Addr) (l : List Edg) (ts : List q9) (ns : List z6) (rs rs2 : List Rt) (left left2 : List Int) (ca cb cc cp cf cp2 cf2 : Nat) (w0 : World) (hN : jaE w0 A B C l ts ns cc)
  (hP : jcs w0 P rs) (hF : k9 w0 F left) (hfl : left.length ≤ 1000) (hP2 : jcs w0 P2 rs2) (hF2 : k9 w0 F2 left2) (hfl2 : left2.length ≤ 1000) (hnl : ns.length ≤ 1000) :
  Calls Tryz.prog 19 #[.agg #[I n, .slice A l.length ca, .slice B ts.length cb, .slice C ns.length cc, I hd], .agg #[.slice P rs.length cp, .slice F left.length cf], .agg #[.slice P2 rs2.length cp2, .slice F2 left2.length cf2]] w0 fun e w' =>
   e = .returned (.bool (betB (jab n l ts ns hd rs left) (jab n l ts ns hd rs2 left2) (jlC n l ts ns hd rs left) (jlC n l ts ns hd rs2 left2) (jiD n l ts ns hd rs left) (jiD n l ts ns hd rs2 left2))) ∧ Below w0.heap.size w0 w' := by
 have H := SH.refl w0
 refine Calls.ofWP Tryz.func19 rfl Tryz.results19 Tryz.ntmps19 rfl<|Y.qr<|Y.bx (cA rfl) H ?_
 clear H; intro g3 w H
 refine Y.bx (cA rfl) H ?_
 clear H; intro g4 w H
 refine Y.bx (cA rfl) H ?_
 clear H; intro g5 w H
 refine Y.aB rfl<|Y.z<|Y.qr<|Y.O H 2 rfl<|Y.O H 1 rfl<|Y.cl 16 rfl (jdT n hd A B C P F l ts ns rs left ca cb cc cp cf w (hN.sh H) (hP.sh H) (hF.sh H) hfl hnl) H ?_
 clear H; intro w H
 refine Y.T rfl<|Y.G rfl<|Y.G rfl<|Y.G rfl<|Y.b rfl<|Y.b rfl<|Y.bz rfl<|Y.qr<|Y.O H 2 rfl<|Y.O H 0 rfl<|Y.cl 23 rfl (jdT n hd A B C P2 F2 l ts ns rs2 left2 ca cb cc cp2 cf2 w (hN.sh H) (hP2.sh H) (hF2.sh H) hfl2 hnl) H ?_
 clear H; intro w H
 refine Y.T rfl<|Y.G rfl<|Y.G rfl<|Y.G rfl<|Y.b rfl<|Y.b rfl<|Y.bz rfl<|Y.qq<|Y.a rfl<|Y.V rfl<|Y.B rfl<|Y.gm rfl<|Y.g rfl rfl (fun hg => Ev.neq (gvE hg rfl) rfl)<|Y.po rfl<|Y.z ?_
 refine WP.cond rfl (fun hc3 => ?_) (fun hc3 => ?_)
 ·refine Y.qr<|Y.aB rfl<|Y.z ?_
  refine WP.ret ⟨_, rfl, ?_⟩
  refine ⟨jkr rfl ?_, H.below⟩
  unfold betB
  simp at hc3
  grind
 refine Y.k<|Y.qr<|Y.a rfl<|Y.a rfl<|Y.lt rfl<|Y.B rfl<|Y.gm rfl<|Y.gm rfl<|Y.g rfl rfl (fun hg => Ev.eql (gvE hg rfl) (gvE hg rfl))<|Y.g rfl rfl (fun hg => Ev.mvB (gvE hg rfl))<|OPS.gvalN rfl rfl (GB.g rfl) rfl rfl (fun hg => Ev.mvI rfl)<|OPS.gvalN rfl rfl (GB.g rfl) rfl rfl (fun hg => Ev.mvI rfl)<|OPS.gvalN rfl rfl (GB.g rfl) rfl rfl (fun hg => Ev.lss (gvE hg rfl) (gvE hg rfl))<|Y.g rfl rfl (fun hg => Ev.pickAnd2 (beqT hg) (gvE hg rfl) rfl rfl)<|Y.po rfl<|Y.aB rfl<|Y.z ?_
 refine WP.ret ⟨_, rfl, ?_⟩
 refine ⟨jkr rfl ?_, H.below⟩
 unfold betB
 simp at hc3
 grind
end Go.Proofs.YtgcokllbophkkaaGreat
