/-
  Plain: no plan that serves all needs drives for less than the bound.
-/
import Derived.Test.YtgjfjbphngamgaaB11
set_option linter.all false
namespace Go.Proofs.Ytgjfjbphngamgaa
open Go Go.W Go.RowKit

/-! ### sums of prices by need -/
theorem dn_map {L : List Need} {f g : Need → Int} : ∀ {v : Nat → Int}, (∀ k (hk : k < L.length), v k = g L[k]) → Flo.dn (L.map f) v = (L.map fun x => f x * g x).sum := by
  induction L with
  | nil => intro v _; rfl
  | cons a L ih =>
    intro v h
    rw [List.map_cons, Flo.dn, List.map_cons, List.sum_cons, ih (v := fun k => v (k + 1)) (fun k hk => by
      have := h (k + 1) (by simp; omega)
      simpa using this)]
    have h0 := h 0 (by simp)
    rw [h0]; rfl
open Classical in
noncomputable def prI (L : List Need) (v : Nat → Int) (x : Need) : Int := if h : ∃ k, L[k]? = some x then v h.choose else 0
theorem prI_at {L : List Need} (hL : L.Nodup) {v : Nat → Int} {k : Nat} (hk : k < L.length) : v k = prI L v L[k] := by
  have h : ∃ j, L[j]? = some L[k] := ⟨k, by simp [hk]⟩
  rw [prI, dif_pos h]
  have hs := h.choose_spec
  generalize h.choose = j at hs
  obtain ⟨hj, he⟩ := List.getElem?_eq_some_iff.1 hs
  rcases Nat.lt_trichotomy j k with hlt | rfl | hlt
  · exact absurd he ((List.pairwise_iff_getElem.1 (List.nodup_iff_pairwise_ne.1 hL)) j k hj hk hlt)
  · rfl
  · exact absurd he.symm ((List.pairwise_iff_getElem.1 (List.nodup_iff_pairwise_ne.1 hL)) k j hk hj hlt)
theorem sum_filter (p : Need → Bool) (g : Need → Int) (l : List Need) : ((l.filter p).map g).sum + ((l.filter fun x => !p x).map g).sum = (l.map g).sum := by
  induction l with
  | nil => rfl
  | cons a l ih =>
    rw [List.map_cons, List.sum_cons, ← ih]
    cases h : p a <;> simp [h] <;> omega
/-- the price of a need -/
noncomputable def prN (ns : List Need) (u v : Nat → Int) (x : Need) : Int := if 0 < x.move then prI (colN ns) u x else prI (briN ns) v x
theorem dn_all {ns : List Need} (hn : ns.Nodup) (u v : Nat → Int) : Flo.dn (movD ns) v - Flo.dn (movC ns) u = (ns.map fun x => -x.move * prN ns u v x).sum := by
  have hC : (colN ns).Nodup := List.Nodup.sublist List.filter_sublist hn
  have hD : (briN ns).Nodup := List.Nodup.sublist List.filter_sublist hn
  have e1 : Flo.dn (movC ns) u = ((colN ns).map fun x => x.move * prI (colN ns) u x).sum := dn_map fun k hk => prI_at hC hk
  have e2 : Flo.dn (movD ns) v = ((briN ns).map fun x => -x.move * prI (briN ns) v x).sum := dn_map fun k hk => prI_at hD hk
  have e3 : ((colN ns).map fun x => x.move * prI (colN ns) u x).sum = -((colN ns).map fun x => -x.move * prN ns u v x).sum := by
    have h : ∀ L : List Need, (∀ x ∈ L, 0 < x.move) → (L.map fun x => x.move * prI (colN ns) u x).sum = -(L.map fun x => -x.move * prN ns u v x).sum := by
      intro L
      induction L with
      | nil => intro _; rfl
      | cons a L ih =>
        intro hL
        rw [List.map_cons, List.sum_cons, List.map_cons, List.sum_cons, ih (fun x hx => hL x (List.mem_cons_of_mem _ hx)), prN, if_pos (hL a (by simp)), Int.neg_mul]
        omega
    exact h _ fun x hx => by have := (List.mem_filter.1 hx).2; simpa using this
  have e4 : ((briN ns).map fun x => -x.move * prI (briN ns) v x).sum = ((briN ns).map fun x => -x.move * prN ns u v x).sum := by
    congr 1
    refine List.map_congr_left fun x hx => ?_
    have h : ¬ 0 < x.move := by have := (List.mem_filter.1 hx).2; simpa using this
    rw [prN, if_neg h]
  have e5 := sum_filter (fun x => decide (0 < x.move)) (fun x => -x.move * prN ns u v x) ns
  rw [e1, e2, e3, e4]
  show _ = (ns.map fun x => -x.move * prN ns u v x).sum
  rw [← e5]
  show _ = ((colN ns).map fun x => -x.move * prN ns u v x).sum + ((briN ns).map fun x => -x.move * prN ns u v x).sum
  omega
/-! ### a route -/
section
variable (D : Nat → Nat → Int) (ns : List Need) (w : Int) (P : Need → Int)
/-- what a bicycle on board is worth, at a node -/
def Good (m c : Nat) (z : Int) : Prop := 0 ≤ z ∧ ∀ x ∈ ns, x.move < 0 → 0 ≤ D c x.node.toNat → x.node.toNat < m → P x ≤ z + w * D c x.node.toNat
def gainR (rn : List Int) : Int := (rn.map fun i => -(needAt ns i).move * P (needAt ns i)).sum
end
theorem sum_addc (w d : Int) (b : List Int) : (b.map fun z => z + w * d).sum = b.sum + (b.length : Int) * (w * d) := by
  induction b with
  | nil => simp
  | cons a b ih =>
    rw [List.map_cons, List.sum_cons, ih, List.sum_cons, List.length_cons]
    have : (((b.length + 1 : Nat) : Int)) * (w * d) = (b.length : Int) * (w * d) + w * d := by rw [Int.natCast_add, Int.add_mul]; simp
    omega
theorem sum_ge {c : Int} : ∀ {b : List Int}, (∀ z ∈ b, c ≤ z) → (b.length : Int) * c ≤ b.sum
  | [], _ => by simp
  | a :: b, h => by
    have h1 := sum_ge (b := b) fun z hz => h z (List.mem_cons_of_mem _ hz)
    have h2 := h a (by simp)
    rw [List.sum_cons, List.length_cons]
    have : (((b.length + 1 : Nat) : Int)) * c = (b.length : Int) * c + c := by rw [Int.natCast_add, Int.add_mul]; simp
    omega
theorem sum_rep (k : Nat) (c : Int) : (List.replicate k c).sum = (k : Int) * c := by
  induction k with
  | zero => simp
  | succ k ih => rw [List.replicate_succ, List.sum_cons, ih, Int.natCast_add, Int.add_mul]; simp; omega
section
variable {D : Nat → Nat → Int} {ns : List Need} {w : Int} {P : Need → Int} {m : Nat} {cap hd : Int}
theorem route_gain (hw : 0 ≤ w) (htri : ∀ a b c, a < m → b < m → c < m → 0 ≤ D a b → 0 ≤ D b c → 0 ≤ D a c ∧ D a c ≤ D a b + D b c)
    (hnd : ∀ x ∈ ns, (0 ≤ x.node ∧ x.node < m) ∧ x.move ≠ 0)
    (hP0 : ∀ x ∈ ns, 0 < x.move → 0 ≤ P x) (hPf : ∀ x ∈ ns, 0 < x.move → ∀ y ∈ ns, y.move < 0 → 0 ≤ D x.node.toNat y.node.toNat → P y ≤ P x + w * D x.node.toNat y.node.toNat) :
    ∀ (rn : List Int) (s : TS) (b : List Int), (∀ i ∈ rn, 0 ≤ i ∧ i < ns.length) → s.at_ < m → (b.length : Int) = s.load → s.load ≤ cap → (∀ z ∈ b, Good D ns w P m s.at_ z) → goE D cap hd ns rn s = 0 →
      gainR ns P rn ≤ b.sum + w * (cap * ((goT D hd ns rn s).driven - s.driven))
  | [], s, b, _, _, _, _, hb, _ => by
    have h := sum_ge (c := 0) (b := b) fun z hz => (hb z hz).1
    simp [gainR, goT] at h ⊢
    exact h
  | i :: rn, s, b, hr, hs, hbl, hlc, hb, hg => by
    obtain ⟨hi0, hi1⟩ := hr i (by simp)
    obtain ⟨ni, rfl⟩ := Int.eq_ofNat_of_zero_le hi0
    have hnl : ni < ns.length := by omega
    have hna : needAt ns (ni : Int) = ns[ni] := by simp [needAt, hnl]
    have hx := List.getElem_mem hnl
    have hxn := hnd _ hx
    rw [goE] at hg
    have hv : visitE (goD D ns ni s) cap (needAt ns ni) s = 0 := by
      by_cases h : visitE (goD D ns ni s) cap (needAt ns ni) s = 0
      · exact h
      · rw [if_pos h] at hg; exact hg
    rw [if_neg (by simp [hv])] at hg
    have e0 : gainR ns P ((ni : Int) :: rn) = -(ns[ni]).move * P ns[ni] + gainR ns P rn := by
      unfold gainR; rw [List.map_cons, List.sum_cons, hna]
    rw [hna] at hv hg
    have ed : goD D ns (ni : Int) s = D s.at_ (ns[ni]).node.toNat := by unfold goD; rw [hna]
    rw [ed] at hv hg
    have eT : goT D hd ns ((ni : Int) :: rn) s = goT D hd ns rn (visitT (D s.at_ (ns[ni]).node.toNat) hd ns[ni] s) := by rw [goT, hna, ed]
    rw [e0, eT]
    generalize hx' : ns[ni] = x at *
    generalize hdd : D s.at_ x.node.toNat = d at *
    have hd0 : ¬ d < 0 := fun h => by rw [visitE, if_pos h] at hv; exact absurd hv (by decide)
    have hin : inB (s.load + x.move) 0 cap = true := by
      by_cases h : inB (s.load + x.move) 0 cap = true
      · exact h
      · rw [visitE, if_neg hd0, if_neg h] at hv; exact absurd hv (by decide)
    have hld : 0 ≤ s.load + x.move ∧ s.load + x.move ≤ cap := by simpa [inB] using hin
    have hxm : x.node.toNat < m := by omega
    have hd1 : 0 ≤ d := by omega
    have hwd : 0 ≤ w * d := Int.mul_nonneg hw hd1
    have hgood : ∀ z ∈ b, Good D ns w P m x.node.toNat (z + w * d) := fun z hz => by
      obtain ⟨h1, h2⟩ := hb z hz
      refine ⟨by omega, fun y hy hym hDy hylt => ?_⟩
      have h3 := htri s.at_ x.node.toNat y.node.toNat hs hxm hylt (by omega) hDy
      have h4 := h2 y hy hym h3.1 hylt
      have h5 : w * D s.at_ y.node.toNat ≤ w * (d + D x.node.toNat y.node.toNat) := Int.mul_le_mul_of_nonneg_left (by omega) hw
      rw [Int.mul_add] at h5
      omega
    have hbs := sum_addc w d b
    have hbc : (b.length : Int) * (w * d) ≤ cap * (w * d) := Int.mul_le_mul_of_nonneg_right (by omega) hwd
    have edr : w * (cap * ((goT D hd ns rn (visitT d hd x s)).driven - s.driven)) = cap * (w * d) + w * (cap * ((goT D hd ns rn (visitT d hd x s)).driven - (visitT d hd x s).driven)) := by
      have : (visitT d hd x s).driven = s.driven + d := rfl
      rw [this]
      generalize (goT D hd ns rn (visitT d hd x s)).driven = q
      have e : q - s.driven = (q - (s.driven + d)) + d := by omega
      rw [e, Int.mul_add, Int.mul_add, Int.mul_left_comm w cap d]
      omega
    by_cases hpos : 0 < x.move
    · have hk : ((x.move.toNat : Nat) : Int) = x.move := by omega
      have ih := route_gain hw htri hnd hP0 hPf rn (visitT d hd x s) ((b.map fun z => z + w * d) ++ List.replicate x.move.toNat (P x)) (fun j hj => hr j (List.mem_cons_of_mem _ hj)) hxm
        (by rw [List.length_append, List.length_map, List.length_replicate]; show _ = s.load + x.move; omega) hld.2 (fun z hz => by
          rcases List.mem_append.1 hz with hz | hz
          · obtain ⟨z0, hz0, rfl⟩ := List.mem_map.1 hz
            exact hgood z0 hz0
          · obtain ⟨_, rfl⟩ := List.mem_replicate.1 hz
            exact ⟨hP0 x hx hpos, fun y hy hym hDy _ => hPf x hx hpos y hy hym hDy⟩) hg
      rw [List.sum_append, hbs, sum_rep, hk] at ih
      rw [edr, Int.neg_mul]
      omega
    · have hneg : x.move < 0 := by have := hxn.2; omega
      have hk : (((-x.move).toNat : Nat) : Int) = -x.move := by omega
      have hkl : (-x.move).toNat ≤ b.length := by omega
      have ih := route_gain hw htri hnd hP0 hPf rn (visitT d hd x s) ((b.drop (-x.move).toNat).map fun z => z + w * d) (fun j hj => hr j (List.mem_cons_of_mem _ hj)) hxm
        (by rw [List.length_map, List.length_drop]; show _ = s.load + x.move; omega) hld.2 (fun z hz => by
          obtain ⟨z0, hz0, rfl⟩ := List.mem_map.1 hz
          exact hgood z0 (List.mem_of_mem_drop hz0)) hg
      have htake : (((b.take (-x.move).toNat).map fun z => z + w * d).length : Int) * P x ≤ ((b.take (-x.move).toNat).map fun z => z + w * d).sum := sum_ge fun z hz => by
        obtain ⟨z0, hz0, rfl⟩ := List.mem_map.1 hz
        have h1 := (hb z0 (List.mem_of_mem_take hz0)).2 x hx hneg (by omega) hxm
        rw [hdd] at h1; exact h1
      have hsplit : ((b.take (-x.move).toNat).map fun z => z + w * d).sum + ((b.drop (-x.move).toNat).map fun z => z + w * d).sum = (b.map fun z => z + w * d).sum := by
        rw [← List.sum_append, ← List.map_append, List.take_append_drop]
      rw [List.length_map, List.length_take, Nat.min_eq_left hkl, hk] at htake
      rw [edr]
      omega
end
end Go.Proofs.Ytgjfjbphngamgaa

/-
  Plain: no feasible plan drives for less than a proved bound.
-/
set_option linter.all false
namespace Go.Proofs.Ytgjfjbphngamgaa
open Go Go.W Go.RowKit

theorem capL_foldl_ge {ts : List Truck} : ∀ {c : Int}, c ≤ ts.foldl (fun c t => if c < t.cap then t.cap else c) c := by
  induction ts with
  | nil => intro c; exact Int.le_refl _
  | cons a l ih =>
    intro c
    rw [List.foldl_cons]
    refine Int.le_trans ?_ ih
    split <;> omega
theorem capL_mem {ts : List Truck} {t : Truck} (h : t ∈ ts) : t.cap ≤ capL ts := by
  unfold capL
  generalize (0 : Int) = c
  induction ts generalizing c with
  | nil => simp at h
  | cons a l ih =>
    rw [List.foldl_cons]
    rcases List.mem_cons.1 h with rfl | h
    · refine Int.le_trans ?_ capL_foldl_ge
      split <;> omega
    · exact ih h _
theorem gainR_app {ns : List Need} {P : Need → Int} {a b : List Int} : gainR ns P (a ++ b) = gainR ns P a + gainR ns P b := by
  unfold gainR; rw [List.map_append, List.sum_append]
theorem perm_sumI {a b : List Int} (h : a.Perm b) : a.sum = b.sum := by
  induction h with
  | nil => rfl
  | cons x _ ih => rw [List.sum_cons, List.sum_cons, ih]
  | swap x y l => simp only [List.sum_cons]; omega
  | trans _ _ ih1 ih2 => rw [ih1, ih2]
theorem gainR_perm {ns : List Need} {P : Need → Int} {a b : List Int} (h : a.Perm b) : gainR ns P a = gainR ns P b := by
  unfold gainR
  exact perm_sumI (h.map _)
theorem gainR_upto {P : Need → Int} {ns : List Need} : gainR ns P (upto ns.length) = (ns.map fun x => -x.move * P x).sum := by
  unfold gainR upto
  congr 1
  rw [List.map_map]
  refine List.ext_getElem (by simp) fun i h1 h2 => ?_
  have hi : i < ns.length := by simpa using h2
  simp [needAt, hi]
theorem perm_of_good {N : Nat} {a : List Int} (hn : a.Nodup) (hg : goodAll N a = true) : a.Perm (upto N) := by
  unfold goodAll at hg
  rw [Bool.and_eq_true, decide_eq_true_iff, decide_eq_true_iff] at hg
  refine (List.perm_ext_iff_of_nodup hn (upto_nodup N)).2 fun x => ?_
  refine ⟨fun h => upto_mem.2 (hg.1 x h), fun h => ?_⟩
  refine Classical.byContradiction fun hc => ?_
  have h3 := nodup_sub (a := x :: a) (b := upto N) (List.nodup_cons.2 ⟨hc, hn⟩) (fun y hy => by
    rcases List.mem_cons.1 hy with rfl | hy
    · exact h
    · exact upto_mem.2 (hg.1 y hy))
  rw [upto_len, List.length_cons] at h3
  omega
theorem plan_gain {m : Nat} {hd w : Int} {l : List Edg} {ts : List Truck} {ns : List Need} {rs : List Rt} {u v : Nat → Int} (hp : PlanOk m l ts ns hd rs []) (hN : NightOk m l ts ns hd) (hw : 0 ≤ w) (hu : ∀ j, 0 ≤ u j) (hF : Flo.Feas w (timL m l ns) u v) :
    Flo.dn (movD ns) v - Flo.dn (movC ns) u ≤ w * (capL ts * drvL m l ts ns hd rs) := by
  have hnn : ns.Nodup := by
    have h := List.nodup_iff_pairwise_ne.1 hN.one
    rw [List.pairwise_map] at h
    exact List.nodup_iff_pairwise_ne.2 (h.imp fun hne he => hne (by rw [he]))
  have hC : (colN ns).Nodup := List.Nodup.sublist List.filter_sublist hnn
  have hD : (briN ns).Nodup := List.Nodup.sublist List.filter_sublist hnn
  rw [dn_all hnn, ← gainR_upto]
  have hperm := perm_of_good hp.nd hp.good
  rw [List.append_nil] at hperm
  rw [← gainR_perm hperm]
  have hP0 : ∀ x ∈ ns, 0 < x.move → 0 ≤ prN ns u v x := fun x _ h => by
    rw [prN, if_pos h, prI]
    split
    · exact hu _
    · exact Int.le_refl _
  have hPf : ∀ x ∈ ns, 0 < x.move → ∀ y ∈ ns, y.move < 0 → 0 ≤ roadD m l x.node.toNat y.node.toNat → prN ns u v y ≤ prN ns u v x + w * roadD m l x.node.toNat y.node.toNat := fun x hx hxm y hy hym h0 => by
    have hxc : x ∈ colN ns := List.mem_filter.2 ⟨hx, by simpa using hxm⟩
    have hyb : y ∈ briN ns := List.mem_filter.2 ⟨hy, by simp; omega⟩
    obtain ⟨j, hj, rfl⟩ := List.mem_iff_getElem.1 hxc
    obtain ⟨k, hk, rfl⟩ := List.mem_iff_getElem.1 hyb
    rw [prN, if_neg (by omega), prN, if_pos hxm, ← prI_at hD hk, ← prI_at hC hj]
    exact hF j k _ (timL_some hj hk) h0
  have htri : ∀ a b c, a < m → b < m → c < m → 0 ≤ roadD m l a b → 0 ≤ roadD m l b c → 0 ≤ roadD m l a c ∧ roadD m l a c ≤ roadD m l a b + roadD m l b c := fun a b c ha hb hc h1 h2 => roadT_tri hN.road ha hb hc h1 h2
  have hroute : ∀ i (hi : i < rs.length), gainR ns (prN ns u v) rs[i].nd.l ≤ w * (capL ts * outD m l ts ns hd rs[i].trk rs[i].nd.l) := fun i hi => by
    obtain ⟨m', q, t, hm, hq, hW⟩ := walkOk_of (hp.walks i hi)
    obtain rfl : m = m' := by omega
    have hg := route_gain (D := roadD m l) (ns := ns) (w := w) (P := prN ns u v) (m := m) (cap := t.cap) (hd := hd) hw htri (fun x hx => ⟨(hN.nd x hx).1, (hN.nd x hx).2.1⟩) hP0 hPf rs[i].nd.l (startT t) [] hW.hr (by show t.depot.toNat < m; have := hW.tr.1; omega) rfl (by show (0 : Int) ≤ t.cap; have := hW.tr.2.1; omega) (fun z hz => by simp at hz) hW.go
    have hcap := capL_mem (List.mem_of_getElem? hW.ht)
    have hts := hW.ts rs[i].nd.l.length (Nat.le_refl _)
    rw [List.take_length] at hts
    have h5 : 0 ≤ roadT m l (goT (roadD m l) hd ns rs[i].nd.l (startT t)).at_ t.depot.toNat := by
      have := hW.home
      unfold homeE at this
      split at this
      · cases this
      · omega
    have hD := hW.D
    rw [← hq] at hD
    rw [hD]
    generalize (goT (roadD m l) hd ns rs[i].nd.l (startT t)) = s at *
    generalize roadT m l s.at_ t.depot.toNat = d at *
    have hz : s.driven - (startT t).driven = s.driven := by show s.driven - 0 = _; omega
    rw [hz] at hg
    have h1 : t.cap * s.driven ≤ capL ts * (s.driven + d) := Int.mul_le_mul hcap (by omega) hts.driven.1 (by have := hW.tr.2.1; omega)
    have h2 := Int.mul_le_mul_of_nonneg_left h1 hw
    simp only [List.sum_nil] at hg
    omega
  have hall : ∀ j, j ≤ rs.length → gainR ns (prN ns u v) (allN (rs.take j)) ≤ w * (capL ts * drvL m l ts ns hd (rs.take j)) := fun j => by
    induction j with
    | zero => intro _; simp [allN, gainR, drvL]
    | succ j ih =>
      intro hj
      have h1 := ih (by omega)
      have h2 := hroute j (by omega)
      have e : allN (rs.take (j + 1)) = allN (rs.take j) ++ (rs[j]'(by omega)).nd.l := by rw [List.take_succ_eq_append_getElem (by omega)]; unfold allN; rw [List.flatMap_append, List.flatMap_cons, List.flatMap_nil, List.append_nil]
      rw [e, gainR_app, drvL_succ (by omega), Int.mul_add, Int.mul_add]
      omega
  have := hall rs.length (Nat.le_refl _)
  rw [List.take_length] at this
  exact this
theorem sound_reach {n hd : Int} {l : List Edg} {ts : List Truck} {ns : List Need} {rs : List Rt} (hp : PlanOk n l ts ns hd rs []) : findErr n l ts ns hd ≠ 15 := by
  obtain ⟨m, rfl, hN⟩ := nightOk_of hp.night
  rw [findErr, if_neg (by simp [hp.night]), solveErr]
  split
  · decide
  · have h : Flo.Hall (movC ns) (movD ns) (timL m l ns) := fun u v hu hF => by
      have := plan_gain hp hN (Int.le_refl 0) hu hF
      rw [Int.zero_mul] at this
      omega
    rw [if_pos (by simpa using h)]
    decide
theorem divI_sum {T c s : Int} (hc : 1 ≤ c) (hs : 0 ≤ s) (h : T ≤ c * s) : divI T c ≤ s := by
  unfold divI
  split
  · exact hs
  · have h1 : (T + c - 1) / c < s + 1 := Int.ediv_lt_of_lt_mul (by omega) (by rw [Int.add_mul, Int.mul_comm s c]; omega)
    omega
theorem drvL_nn {n hd : Int} {l : List Edg} {ts : List Truck} {ns : List Need} {rs : List Rt} (hp : PlanOk n l ts ns hd rs []) : 0 ≤ drvL n l ts ns hd rs := by
  unfold drvL
  have h := sum_ge (c := 0) (b := rs.map fun r => outD n l ts ns hd r.trk r.nd.l) fun z hz => by
    obtain ⟨r, hr, rfl⟩ := List.mem_map.1 hz
    obtain ⟨i, hi, rfl⟩ := List.mem_iff_getElem.1 hr
    exact (outD_bd (hp.walks i hi)).1
  rw [Int.mul_zero] at h
  exact h
theorem sound_le {n hd s b : Int} {l : List Edg} {ts : List Truck} {ns : List Need} {rs : List Rt} {us vs : List Int} (hp : PlanOk n l ts ns hd rs []) (hP : ProvedP n l ts ns hd s b us vs) : s ≤ drvL n l ts ns hd rs := by
  obtain ⟨m, rfl, hN, hem, _⟩ := findErr_night hP.err
  have h := plan_gain (w := 1) hp hN (by omega) (getD_nn hP.un.1) (by simpa using hP.feas)
  rw [Int.one_mul] at h
  have hc := capL_bd hN
  have hc1 : 1 ≤ capL ts := by
    unfold emptyB at hem
    simp at hem
    omega
  rw [hP.secs]
  exact divI_sum hc1 (drvL_nn hp) h
end Go.Proofs.Ytgjfjbphngamgaa

/-
  The law BoundSound.
-/
set_option linter.all false
namespace Go.Proofs.Ytgjfjbphngamgaa
open Go Go.W Go.RowKit

open Classical in
theorem boundProvedD (n hd s b : Int) (A B C AU AV : Option Addr) (l : List Edg) (ts : List Truck) (ns : List Need) (us vs : List Int) (ca cb cc cu cv : Nat) (w0 : World) (hN : NightAt w0 A B C l ts ns cc) (hU : IntsAt w0 AU us) (hV : IntsAt w0 AV vs) (hul : us.length ≤ 1000) (hvl : vs.length ≤ 1000) :
    Calls Try.prog 14 #[.agg #[I n, .slice A l.length ca, .slice B ts.length cb, .slice C ns.length cc, I hd], .agg (bndL s b AU us.length cu AV vs.length cv).toArray] w0 fun e w' => e = .returned (.bool (decide (ProvedP n l ts ns hd s b us vs))) ∧ Below w0.heap.size w0 w' :=
  (boundProved n hd s b A B C AU AV l ts ns us vs ca cb cc cu cv w0 hN hU hV hul hvl).mono fun e w' ⟨r, h1, h2, h3⟩ => by
    refine ⟨?_, h3⟩
    rw [h1]
    have h : r = decide (ProvedP n l ts ns hd s b us vs) := by
      cases r with
      | true => exact (decide_eq_true (h2.1 rfl)).symm
      | false => exact (decide_eq_false fun hp => by have := h2.2 hp; simp at this).symm
    rw [h]
theorem FindRet.short {n hd s b : Int} {l : List Edg} {ts : List Truck} {ns : List Need} {us vs : List Int} (h : FindRet n l ts ns hd s b us vs) : us.length ≤ 1000 ∧ vs.length ≤ 1000 := by
  by_cases he : findErr n l ts ns hd = 0
  · have hp := h.proved he
    obtain ⟨m, rfl, hK, _, _⟩ := findErr_night he
    have h1 : (colN ns).length ≤ ns.length := List.length_filter_le _ _
    have h2 : (briN ns).length ≤ ns.length := List.length_filter_le _ _
    have := hK.nl
    have := hp.un.2
    have := hp.vn.2
    omega
  · obtain ⟨_, _, rfl, rfl⟩ := h.bad he
    simp
set_option maxRecDepth 20000 in
set_option maxHeartbeats 2000000 in
open Classical in
theorem lawSound (n hd s2 b2 : Int) (A B C P F AU2 AV2 : Option Addr) (l : List Edg) (ts : List Truck) (ns : List Need) (rs : List Rt) (left us2 vs2 : List Int) (ca cb cc cp cf cu2 cv2 : Nat) (w0 : World) (hN : NightAt w0 A B C l ts ns cc) (hP : RtsAt0 w0 P rs) (hPl : rs.length ≤ maxLen) (hF : IntsAt w0 F left) (hU : IntsAt w0 AU2 us2) (hV : IntsAt w0 AV2 vs2) :
    Calls Try.prog 8 #[.agg #[I n, .slice A l.length ca, .slice B ts.length cb, .slice C ns.length cc, I hd], .agg #[.slice P rs.length cp, .slice F left.length cf], .agg (bndL s2 b2 AU2 us2.length cu2 AV2 vs2.length cv2).toArray] w0 fun e w' => e = .returned (.bool true) ∧ Below w0.heap.size w0 w' := by
  have H := SH.refl w0
  refine Calls.ofWP Try.func8 rfl Try.results8 Try.ntmps8 rfl ?_
  refine WP.seq ?_
  refine WP.region ?_
  refine OPS.box rfl rfl rfl rfl (cA rfl) H ?_
  clear H; intro g3 w H
  refine OPS.box rfl rfl rfl rfl (cA rfl) H ?_
  clear H; intro g4 w H
  refine OPS.box rfl rfl rfl rfl (cA rfl) H ?_
  clear H; intro g5 w H
  refine OPS.val rfl rfl rfl (Ev.asB rfl) ?_
  refine OPS.nil ?_
  refine WP.seq ?_
  refine WP.seq ?_
  refine WP.region ?_
  refine OPS.val rfl rfl rfl ((by exact Ev.loadO 2 H rfl (agg_run rfl) (size_run rfl) (by rfl) rfl)) ?_
  refine OPS.call (d := some 12) rfl rfl rfl (EvC.func (fun_run rfl)) (r42Few n hd A B C l.length ts.length ns.length ca cb cc w) ?_
  rintro _ w ⟨rfl, hb⟩
  refine ⟨_, rfl, ?_⟩
  replace H := H.toBelow hb; clear hb
  refine OPS.val rfl rfl rfl (Ev.not rfl) ?_
  refine OPS.val rfl rfl rfl (Ev.mvB rfl) ?_
  refine OPS.gval rfl rfl rfl rfl rfl (fun hg => (by exact Ev.loadO 1 H rfl (agg_run rfl) (size_run rfl) (by rfl) rfl)) ?_
  refine OPS.gcall0 (f := 17) (lawShort P F rs left.length cp cf w (hP.rows.sh H) hPl) (fun _ _ h => h) rfl rfl rfl rfl rfl (fun hg => EvC.conv (EvC.func (fun_run rfl)) (l1 (by exact gvE hg rfl))) ?_
  intro w hbc; replace H := H.toBelow hbc
  refine OPS.gval rfl rfl rfl rfl rfl (fun hg => Ev.not (by exact gvE hg rfl)) ?_
  refine OPS.val rfl rfl rfl ((by exact Ev.pickOr rfl rfl rfl)) ?_
  refine OPS.val rfl rfl rfl (Ev.mvB rfl) ?_
  refine OPS.gval rfl rfl rfl rfl rfl (fun hg => (by exact Ev.loadO 0 H rfl (agg_run rfl) (size_run rfl) (by rfl) rfl)) ?_
  refine OPS.gcall0 (f := 15) (r44Short s2 b2 AU2 AV2 us2.length cu2 vs2.length cv2 w) (fun _ _ h => h) rfl rfl rfl rfl rfl (fun hg => EvC.conv (EvC.func (fun_run rfl)) (l1 (by exact gvE hg rfl))) ?_
  intro w hbc; replace H := H.toBelow hbc
  refine OPS.gval rfl rfl rfl rfl rfl (fun hg => Ev.not (by exact gvE hg rfl)) ?_
  refine OPS.val rfl rfl rfl ((by exact Ev.pickOr rfl rfl rfl)) ?_
  refine OPS.nil ?_
  refine WP.cond rfl (fun hc1 => ?_) (fun hc1 => ?_)
  · refine WP.seq ?_
    refine WP.region ?_
    refine OPS.call (d := some 24) rfl rfl rfl (EvC.func (fun_run rfl)) (lawAwakeB w) ?_
    rintro _ w ⟨rfl, hb⟩
    refine ⟨_, rfl, ?_⟩
    replace H := H.toBelow hb; clear hb
    refine OPS.val rfl rfl rfl (Ev.asB rfl) ?_
    refine OPS.nil ?_
    refine WP.ret ⟨_, rfl, ?_⟩
    exact ⟨rfl, H.below⟩
  obtain ⟨⟨hfw, hsh⟩, hs1, hs2⟩ : (fewB l.length ts.length ns.length = true ∧ shortB rs left.length = true) ∧ us2.length ≤ 50 ∧ vs2.length ≤ 50 := by simpa using hc1
  have hf1 := fewB_ok hfw
  obtain ⟨hq1, hq2, hq3⟩ : (∀ r ∈ rs, r.nd.l.length ≤ 40) ∧ rs.length ≤ 20 ∧ left.length ≤ 40 := by simpa [shortB] using hsh
  have hP' : RtsAt w0 P rs := ⟨hP.rows, hP.ints, hP.cap, fun r hr => by have := hq1 r hr; omega, by omega⟩
  refine WP.skip ?_
  refine WP.seq ?_
  refine WP.region ?_
  refine OPS.val rfl rfl rfl ((by exact Ev.loadO 2 H rfl (agg_run rfl) (size_run rfl) (by rfl) rfl)) ?_
  refine OPS.val rfl rfl rfl ((by exact Ev.loadO 1 H rfl (agg_run rfl) (size_run rfl) (by rfl) rfl)) ?_
  refine OPS.call (d := some 28) rfl rfl rfl (EvC.func (fun_run rfl)) (lawDriving n hd A B C P F l ts ns rs left ca cb cc cp cf w (hN.sh H) (hP'.sh H) (hF.sh H) (by omega) (by omega)) ?_
  rintro _ w ⟨rfl, hb⟩
  refine ⟨_, rfl, ?_⟩
  replace H := H.toBelow hb; clear hb
  refine OPS.val rfl rfl rfl (Ev.mvT rfl) ?_
  refine OPS.val rfl rfl rfl (Ev.extract rfl rfl) ?_
  refine OPS.val rfl rfl rfl (Ev.extract rfl rfl) ?_
  refine OPS.val rfl rfl rfl (Ev.asI rfl) ?_
  refine OPS.val rfl rfl rfl (Ev.asB rfl) ?_
  refine OPS.nil ?_
  refine WP.seq ?_
  refine WP.seq ?_
  refine WP.region ?_
  refine OPS.val rfl rfl rfl (Ev.mvB rfl) ?_
  refine OPS.val rfl rfl rfl (Ev.not rfl) ?_
  refine OPS.nil ?_
  refine WP.cond rfl (fun hc4 => ?_) (fun hc4 => ?_)
  · refine WP.seq ?_
    refine WP.region ?_
    refine OPS.call (d := some 33) rfl rfl rfl (EvC.func (fun_run rfl)) (lawAwakeB w) ?_
    rintro _ w ⟨rfl, hb⟩
    refine ⟨_, rfl, ?_⟩
    replace H := H.toBelow hb; clear hb
    refine OPS.val rfl rfl rfl (Ev.asB rfl) ?_
    refine OPS.nil ?_
    refine WP.ret ⟨_, rfl, ?_⟩
    exact ⟨rfl, H.below⟩
  have hg : planErr n l ts ns hd rs left = 0 ∧ left = [] := by simpa using hc4
  have hK : PlanOk n l ts ns hd rs [] := by have h := planOk_of hg.1; rw [hg.2] at h; exact h
  rw [if_pos hg]
  refine WP.skip ?_
  refine WP.seq ?_
  refine WP.region ?_
  refine OPS.val rfl rfl rfl ((by exact Ev.loadO 2 H rfl (agg_run rfl) (size_run rfl) (by rfl) rfl)) ?_
  refine OPS.call (d := some 36) rfl rfl rfl (EvC.func (fun_run rfl)) (boundFind n hd A B C l ts ns ca cb cc w (hN.sh H)) ?_
  rintro _ w ⟨s, b, us, vs, AU, AV, cu, cv, L, rfl, hFr, hrd, Hc⟩
  refine ⟨_, rfl, ?_⟩
  replace H := SH.call (Lv := []) (by rw [List.append_nil]; exact H) Hc
  clear Hc
  have hsl := hFr.short
  refine OPS.val rfl rfl rfl (Ev.mvT rfl) ?_
  refine OPS.val rfl rfl rfl (Ev.extract rfl rfl) ?_
  refine OPS.val rfl rfl rfl (Ev.extract rfl rfl) ?_
  refine OPS.alloc rfl rfl rfl rfl (zero_run rfl) rfl H ?_
  clear H; intro g9 w H
  refine OPS.store 0 _ rfl rfl rfl (size_run rfl) rfl (cA rfl) rfl rfl H rfl (by simp) ?_
  clear H; intro w H; try simp only [List.set_cons_zero, List.set_cons_succ, putL, Nat.zero_add] at H
  refine OPS.val rfl rfl rfl (Ev.asI rfl) ?_
  refine OPS.nil ?_
  refine WP.seq ?_
  refine WP.seq ?_
  have hUV := hrd _ _ _ (H.drop ((List.sublist_append_right _ _).cons _))
  refine WP.region ?_
  refine OPS.val rfl rfl rfl (Ev.mvI rfl) ?_
  refine OPS.val rfl rfl rfl (Ev.eql rfl rfl) ?_
  refine OPS.val rfl rfl rfl (Ev.mvB rfl) ?_
  refine OPS.gval rfl rfl rfl rfl rfl (fun hg => Ev.fieldAddr (fld_run rfl) (by rfl)) ?_
  refine OPS.gval rfl rfl rfl rfl rfl (fun hg => Ev.load1 (agg_run rfl) (by exact gvE hg rfl) (by exact H.ldL 0 rfl _ rfl)) ?_
  refine OPS.gval rfl rfl rfl rfl rfl (fun hg => Ev.mvI (by rfl)) ?_
  refine OPS.gval rfl rfl rfl rfl rfl (fun hg => Ev.gtr (by exact gvE hg rfl) (by exact gvE hg rfl)) ?_
  refine OPS.gval rfl rfl rfl rfl rfl (fun hg => Ev.mvB (by exact gvE hg rfl)) ?_
  refine OPS.gvalN rfl rfl (GB.g rfl) rfl rfl (fun hg => (by exact Ev.loadO 3 H rfl (agg_run rfl) (size_run rfl) (by rfl) rfl)) ?_
  refine OPS.gvalN rfl rfl (GB.g rfl) rfl rfl (fun hg => (by exact Ev.loadO 0 H rfl (agg_run rfl) (size_run rfl) (by rfl) rfl)) ?_
  have hpv := boundProvedD n hd s b A B C AU AV l ts ns us vs ca cb cc cu cv w (hN.sh H) hUV.1 hUV.2 hsl.1 hsl.2
  refine OPS.gcallN (α := Unit) (f := 14) (args := [.agg #[I n, .slice A l.length ca, .slice B ts.length cb, .slice C ns.length cc, I hd], .agg (bndL s b AU us.length cu AV vs.length cv).toArray]) (fun _ => .bool (decide (ProvedP n l ts ns hd s b us vs))) (fun _ _ => True) (fun hg => hpv.mono fun e w' ⟨he, hb⟩ => ⟨(), he, trivial, hb⟩) rfl rfl (GB.g rfl) rfl rfl (fun hg => EvC.conv (EvC.func (fun_run rfl)) (l2 (gvE hg rfl) (gvE hg rfl))) ?_
  intro _ w _ Hc
  clear hpv
  replace H := H.toBelow Hc
  clear Hc
  refine OPS.gvalN rfl rfl (GB.g rfl) rfl rfl (fun hg => Ev.not (by exact gvE hg rfl)) ?_
  refine OPS.gval rfl rfl rfl rfl rfl (fun hg => (by exact Ev.pickOr2 (beqT hg) (gvE hg rfl) rfl rfl)) ?_
  refine OPS.val rfl rfl rfl ((by exact Ev.pickAnd rfl rfl rfl)) ?_
  refine OPS.val rfl rfl rfl (Ev.mvB rfl) ?_
  refine OPS.gval rfl rfl rfl rfl rfl (fun hg => Ev.mvI (by rfl)) ?_
  refine OPS.gval rfl rfl rfl rfl rfl (fun hg => Ev.eql (by exact gvE hg rfl) (by rfl)) ?_
  refine OPS.val rfl rfl rfl ((by exact Ev.pickOr rfl rfl rfl)) ?_
  refine OPS.nil ?_
  refine WP.cond rfl (fun hc7 => ?_) (fun hc7 => ?_)
  · refine WP.seq ?_
    refine WP.region ?_
    refine OPS.val rfl rfl rfl (Ev.asB rfl) ?_
    refine OPS.nil ?_
    refine WP.ret ⟨_, rfl, ?_⟩
    exfalso
    by_cases he : findErr n l ts ns hd = 0
    · have hp := hFr.proved he
      have hle := sound_le hK hp
      have hle2 : ¬ drvL n l ts ns hd rs < s := by omega
      simp [he, hp, hle2] at hc7
    · have := sound_reach hK
      simp [he, this] at hc7
  refine WP.skip ?_
  refine WP.seq ?_
  refine WP.region ?_
  refine OPS.val rfl rfl rfl ((by exact Ev.loadO 3 H rfl (agg_run rfl) (size_run rfl) (by rfl) rfl)) ?_
  refine OPS.val rfl rfl rfl ((by exact Ev.loadO 1 H rfl (agg_run rfl) (size_run rfl) (by rfl) rfl)) ?_
  refine OPS.call (d := some 59) rfl rfl rfl (EvC.func (fun_run rfl)) (boundProvedD n hd s2 b2 A B C AU2 AV2 l ts ns us2 vs2 ca cb cc cu2 cv2 w (hN.sh H) (hU.sh H) (hV.sh H) (by omega) (by omega)) ?_
  rintro _ w ⟨rfl, hb⟩
  refine ⟨_, rfl, ?_⟩
  replace H := H.toBelow hb; clear hb
  refine OPS.val rfl rfl rfl (Ev.not rfl) ?_
  refine OPS.val rfl rfl rfl (Ev.mvB rfl) ?_
  refine OPS.gval rfl rfl rfl rfl rfl (fun hg => Ev.fieldAddr (fld_run rfl) (by rfl)) ?_
  refine OPS.gval rfl rfl rfl rfl rfl (fun hg => Ev.load1 (agg_run rfl) (by exact gvE hg rfl) (by exact H.ldL 1 rfl _ rfl)) ?_
  refine OPS.gval rfl rfl rfl rfl rfl (fun hg => Ev.mvI (by rfl)) ?_
  refine OPS.gval rfl rfl rfl rfl rfl (fun hg => Ev.leq (by exact gvE hg rfl) (by exact gvE hg rfl)) ?_
  refine OPS.val rfl rfl rfl ((by exact Ev.pickOr rfl rfl rfl)) ?_
  refine OPS.val rfl rfl rfl (Ev.mvB rfl) ?_
  refine OPS.gcall0 (f := 10) (lawAwakeB w) (fun _ _ h => h) rfl rfl rfl rfl rfl (fun hg => (EvC.func (fun_run rfl))) ?_
  intro w hbc; replace H := H.toBelow hbc
  refine OPS.val rfl rfl rfl ((by exact Ev.pickAnd rfl rfl rfl)) ?_
  refine OPS.val rfl rfl rfl (Ev.asB rfl) ?_
  refine OPS.nil ?_
  refine WP.ret ⟨_, rfl, ?_⟩
  have hv : ((!decide (ProvedP n l ts ns hd s2 b2 us2 vs2) || decide (s2 ≤ drvL n l ts ns hd rs)) && true) = true := by
    by_cases hp : ProvedP n l ts ns hd s2 b2 us2 vs2
    · have hle := sound_le hK hp
      simp [hle]
    · simp [hp]
  exact ⟨ret_true rfl hv, H.below⟩
end Go.Proofs.Ytgjfjbphngamgaa
