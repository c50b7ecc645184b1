/-
 Walks: price.
-/
import Derived.Test.YthobaaefdehoiaaGreatFM2
import Derived.Test.YthobaaefdehoiaaGreatPtr
import Derived.Test.YthobaaefdehoiaaGreatFM5
import Derived.Test.YthobaaefdehoiaaGreatFT12
set_option linter.all false
namespace Go.Proofs.YthobaaefdehoiaaGreat.Flo
open Go Go.W Go.RowKit
theorem costOf_take : ∀ (l : List Arc) (on : List Int) (j : Nat) (h : j < l.length) (h2 : j < on.length), costOf (l.take (j + 1)) (on.take (j + 1)) = costOf (l.take j) (on.take j) + on[j] * l[j].cost
 | [], _, _, h, _ => by simp at h
 | _ :: _, [], _, _, h => by simp at h
 | a :: l, x :: on, 0, _, _ => by simp [costOf]
 | a :: l, x :: on, j + 1, h, h2 => by
  simp only [List.take_succ_cons, costOf, List.getElem_cons_succ]
  have := costOf_take l on j (by simpa using h) (by simpa using h2)
  rw [this]; omega
theorem mul_bd {x c : Int} (h0 : 0 ≤ x) (h1 : x ≤ 65536) (h2 : 0 ≤ c) (h3 : c ≤ 65536) : 0 ≤ x * c ∧ x * c ≤ 4294967296 :=
 ⟨Int.mul_nonneg h0 h2, Int.le_trans (Int.mul_le_mul h1 h3 h2 (by omega)) (by omega)⟩
theorem costOf_bd {n : Nat} {l : List Arc} {on : List Int} (hN : NetOk n l) (hV : VFlow l on) : ∀ j, j ≤ l.length → 0 ≤ costOf (l.take j) (on.take j) ∧ costOf (l.take j) (on.take j) ≤ 4294967296 * j
 | 0, _ => by simp [costOf]
 | j + 1, h => by
  have ih := costOf_bd hN hV j (by omega)
  have hl := hV.len
  have h1 := hV.bd j (by omega) (by omega)
  have h2 := hN.caps l[j] (List.getElem_mem _)
  have h3 := mul_bd h1.1 (by omega) h2.2.1 h2.2.2
  rw [costOf_take l on j (by omega) (by omega)]
  omega
theorem flowPrice (n : Nat) (A B : Option Addr) (l : List Arc) (on : List Int) (cap cap2 : Nat) (w0 : World) (hN : NetOk n l) (hV : VFlow l on) (hz : ArcsAt w0 A l) (ho : IntsAt w0 B on) :
  Calls Tryz.prog 56 #[.agg #[I n, .slice A l.length cap], .slice B on.length cap2] w0 fun e w' => e = .returned (I (costOf l on)) ∧ Below w0.heap.size w0 w' := by
 have H := SH.refl w0
 have hl := hV.len
 have hll := hN.len
 refine Calls.ofWP Tryz.func56 rfl Tryz.results56 Tryz.ntmps56 rfl <| Y.qr <| Y.bx (cA rfl) H ?_
 clear H; intro g2 w H
 refine Y.b rfl <| Y.z <| Y.qr <| Y.b rfl <| Y.z <| Y.q <| Y.qr <| Y.fa rfl rfl <| Y.j H 0 rfl rfl rfl <| Y.v (Y.n rfl) <| Y.a rfl <| Y.z <| WP.block <| WP.loop [5, 6, 7, 11, 12, 13, 14, 15, 16, 17, 18, 19, 20, 21, 22, 23, 24, 25] (fun k e w' => ∃ j : Nat, j + k = l.length ∧ e 11 = I j ∧ e 5 = I (costOf (l.take j) (on.take j)) ∧ SH w0 [] w' [⟨g2, 101, [I n, .slice A l.length cap]⟩]) (l.length) (⟨0, by omega, rfl, rfl, H⟩) ?_
 clear H
 rintro k u w ⟨j, hk, h11, h5, H⟩
 refine WP.know (t := 11) h11 (WP.know (t := 5) h5 ?_)
 refine Y.qr <| Y.v (Ev.lss rfl rfl) <| Y.z <| Y.q ?_
 refine WP.cond rfl (fun hc3 => ?_) (fun hc3 => ?_)
 ·have hlt : j < l.length := by simpa using hc3
  obtain ⟨b, o, rfl, hc⟩ := hz j hlt
  obtain ⟨b2, o2, rfl, hx⟩ := ho j (by omega)
  have hc' := cellsAt_sh H hc
  have h1 := hV.bd j hlt (by omega)
  have h2 := hN.caps l[j] (List.getElem_mem _)
  have h3 := mul_bd h1.1 (by omega) h2.2.1 h2.2.2
  have h4 := costOf_bd hN hV j (by omega)
  refine Y.k <| Y.q <| WP.block <| Y.qr <| Y.a rfl <| Y.v (Y.X rfl rfl rfl rfl rfl) <| Y.v (by (change Ev _ _ _ _ (Op.load 123 (Operand.tmp 14)) _; exact Ev.loadN (arcCells l[j]) (agg_run rfl) (size_run rfl) rfl hc')) <| Y.al H rfl rfl ?_
  clear H; intro g7 w H
  refine Y.b rfl <| Y.ss 0 H rfl (cA rfl) rfl ?_
  clear H; intro w H
  refine Y.z <| WP.rstill mixed (by kernel_rfl) H ?_
  clear H; intro w hbw5 H
  refine Y.a rfl <| Y.v (Ev.mvS rfl) <| Y.a rfl <| Y.v (Y.x rfl rfl rfl rfl) <| Y.v (Y.c (H.ld0 (by assumption)) rfl) ?_
  refine Y.fa rfl rfl <| Y.j H 0 rfl rfl rfl <| Y.v (Ev.mul rfl rfl (by unfold fits; omega)) <| Y.v (Y.p rfl rfl) <| Y.b rfl <| OPS.nil_s <| Y.r <| Y.v (Y.p rfl rfl) <| Y.a rfl <| Y.z ?_
  exact ⟨Y.ag, k - 1, by omega, j + 1, by omega, rfl, by rw [costOf_take l on j hlt (by omega)]; rfl, H.drop (List.sublist_cons_self _ _)⟩
 refine WP.exit <| XB.hit <| Y.qr <| Y.a rfl <| Y.b rfl <| Y.z ?_
 refine WP.ret ⟨_, rfl, ?_⟩
 have hj : j = l.length := by simp at hc3; omega
 subst hj
 rw [List.take_length, ← hl, List.take_length]
 exact ⟨rfl, H.below⟩
end Go.Proofs.YthobaaefdehoiaaGreat.Flo

/-
 Plain: the potentials after a search, and after a push along its tree.
-/
set_option linter.all false
namespace Go.Proofs.YthobaaefdehoiaaGreat.Flo
open Go Go.W
abbrev potF (pots : List Int) : Int → Int := fun u => pots.getD u.toNat 0
def newL (sts : List Step) (dist : List Int) (F : Int) (pots : List Int) : List Int := (List.range pots.length).map fun v => pots.getD v 0 + (if kn sts v = true then dAt dist v else F)
theorem newL_length (sts : List Step) (dist : List Int) (F : Int) (pots : List Int) : (newL sts dist F pots).length = pots.length := by simp [newL]
theorem newL_at {sts : List Step} {dist : List Int} {F : Int} {pots : List Int} {v : Nat} (h : v < pots.length) : (newL sts dist F pots).getD v 0 = pots.getD v 0 + (if kn sts v = true then dAt dist v else F) := by
 simp [newL, h]
def farTo (sts : List Step) (dist : List Int) : Nat → Int
 | 0 => 0
 | k + 1 => if kn sts k = true then (if farTo sts dist k < dAt dist k then dAt dist k else farTo sts dist k) else farTo sts dist k
theorem farTo_spec (sts : List Step) (dist : List Int) : ∀ k, 0 ≤ farTo sts dist k ∧ (∀ v, v < k → kn sts v = true → dAt dist v ≤ farTo sts dist k) ∧ (farTo sts dist k = 0 ∨ ∃ v, v < k ∧ kn sts v = true ∧ farTo sts dist k = dAt dist v)
 | 0 => ⟨Int.le_refl _, fun v hv => absurd hv (by omega), .inl rfl⟩
 | k + 1 => by
  obtain ⟨h0, h1, h2⟩ := farTo_spec sts dist k
  unfold farTo
  have lift : ∀ x, (x = 0 ∨ ∃ v, v < k ∧ kn sts v = true ∧ x = dAt dist v) → (x = 0 ∨ ∃ v, v < k + 1 ∧ kn sts v = true ∧ x = dAt dist v) := fun x hx => hx.imp id fun ⟨v, q1, q2⟩ => ⟨v, by omega, q2⟩
  split
  ·rename_i hk
   split
   ·rename_i hlt
    refine ⟨by omega, fun v hv hkv => ?_, .inr ⟨k, by omega, hk, rfl⟩⟩
    rcases Nat.lt_succ_iff_lt_or_eq.1 hv with hv | rfl
    ·have := h1 v hv hkv; omega
    ·exact Int.le_refl _
   ·rename_i hlt
    refine ⟨h0, fun v hv hkv => ?_, lift _ h2⟩
    rcases Nat.lt_succ_iff_lt_or_eq.1 hv with hv | rfl
    ·exact h1 v hv hkv
    ·omega
  ·rename_i hk
   refine ⟨h0, fun v hv hkv => ?_, lift _ h2⟩
   rcases Nat.lt_succ_iff_lt_or_eq.1 hv with hv | rfl
   ·exact h1 v hv hkv
   ·exact absurd hkv hk
section
variable {pots : List Int} {l : List Arc} {on : List Int} {n s : Nat} {sts : List Step} {dist : List Int} {rk : Nat → Int}
theorem rc_new {F : Int} {i u v : Nat} {w : Int} {fw : Bool} {r : Int} (hl : pots.length = n) (hE : REdge (potF pots) l on i fw u v r w) (hu : u < n) (hv : v < n) (h : i < l.length) :
  (fw = true → rc (potF (newL sts dist F pots)) l[i] = w + (if kn sts u = true then dAt dist u else F) - (if kn sts v = true then dAt dist v else F)) ∧
  (fw = false → rc (potF (newL sts dist F pots)) l[i] = -(w + (if kn sts u = true then dAt dist u else F) - (if kn sts v = true then dAt dist v else F))) := by
 obtain ⟨_, _, a, b⟩ := hE
 have e1 := newL_at (sts := sts) (dist := dist) (F := F) (show u < pots.length by omega)
 have e2 := newL_at (sts := sts) (dist := dist) (F := F) (show v < pots.length by omega)
 refine ⟨fun hf => ?_, fun hf => ?_⟩
 ·obtain ⟨h1, h2, _, _, h3⟩ := a hf
  unfold rc at h3 ⊢
  rw [h1, h2] at h3 ⊢
  simp only [potF, Int.toNat_natCast] at h3 ⊢
  rw [e1, e2]; omega
 ·obtain ⟨h1, h2, _, _, h3⟩ := b hf
  unfold rc at h3 ⊢
  rw [h1, h2] at h3 ⊢
  simp only [potF, Int.toNat_natCast] at h3 ⊢
  rw [e1, e2]; omega
theorem redge_of (hn : NodesOk n l) {i : Nat} (h : i < l.length) (h2 : i < on.length) (p : Int → Int) : ∃ a b : Nat, a < n ∧ b < n ∧ l[i].f = a ∧ l[i].t = b ∧ (on[i] < l[i].cap → REdge p l on i true a b (l[i].cap - on[i]) (rc p l[i])) ∧ (0 < on[i] → REdge p l on i false b a on[i] (-rc p l[i])) := by
 obtain ⟨⟨q1, q2⟩, q3, q4⟩ := hn l[i] (List.getElem_mem h)
 obtain ⟨a, ha⟩ := Int.eq_ofNat_of_zero_le q1
 obtain ⟨b, hb⟩ := Int.eq_ofNat_of_zero_le q3
 exact ⟨a, b, by omega, by omega, ha, hb, fun hc => ⟨h, h2, fun _ => ⟨ha, hb, rfl, hc, rfl⟩, fun q => by cases q⟩, fun hc => ⟨h, h2, (fun q => by cases q), fun _ => ⟨hb, ha, rfl, hc, rfl⟩⟩⟩
theorem near_opt (hnr : Near (potF pots) l on n s sts dist rk) (ho : OptPot (potF pots) l on) (hn : NodesOk n l) (hl : pots.length = n) {F : Int} (hF : ∀ v, v < n → kn sts v = true → dAt dist v ≤ F) : OptPot (potF (newL sts dist F pots)) l on := by
 intro i h h2
 obtain ⟨a, b, ha, hb, hfa, htb, e1, e2⟩ := redge_of hn h h2 (potF pots)
 have key : ∀ (fw : Bool) (u v : Nat) (r w : Int), u < n → v < n → REdge (potF pots) l on i fw u v r w → 0 ≤ w + (if kn sts u = true then dAt dist u else F) - (if kn sts v = true then dAt dist v else F) := by
  intro fw u v r w hu hv hE
  have hw := hE.nonneg ho
  by_cases hku : kn sts u = true
  ·obtain ⟨q1, q2⟩ := hnr.clo i fw u v r w hE hu hv hku
   rw [if_pos hku, if_pos q1]; omega
  ·rw [if_neg hku]
   by_cases hkv : kn sts v = true
   ·rw [if_pos hkv]; have := hF v hv hkv; omega
   ·rw [if_neg hkv]; omega
 refine ⟨fun hc => ?_, fun hc => ?_⟩
 ·rw [(rc_new hl (e1 hc) ha hb h).1 rfl]; exact key _ _ _ _ _ ha hb (e1 hc)
 ·rw [(rc_new hl (e2 hc) hb ha h).2 rfl]; have := key _ _ _ _ _ hb ha (e2 hc); omega
theorem Path.known (hnr : Near (potF pots) l on n s sts dist rk) : ∀ (ks : List Nat) (v : Nat), Path rk l on n s sts ks v → kn sts v = true → ∀ x ∈ ks, x < n ∧ x ≠ s ∧ kn sts x = true
 | [], _, _, _, x, hx => by cases hx
 | y :: ks, v, ⟨h1, h2, h3, p, hp, _, hE, hP⟩, hk, x, hx => by
  rcases List.mem_cons.1 hx with rfl | hx
  ·subst h1; exact ⟨h3, h2, hk⟩
  ·refine Path.known hnr ks p hP ?_ x hx
   obtain ⟨u, i, fw, r, w, q1, q2, q3, q4, _⟩ := hnr.par v h3 hk h2
   obtain ⟨e1, _⟩ := hE
   rw [q4] at e1
   have : u = p := by simp at e1; omega
   rw [← this]; exact q2
theorem pushOn_at (sts : List Step) (M : Int) (i : Nat) : ∀ (ks : List Nat) (on : List Int), (pushOn sts ks M on).getD i 0 = on.getD i 0 ∨ ∃ x ∈ ks, (sts.getD x default).arc.toNat = i
 | [], on => .inl rfl
 | k :: ks, on => by
  have e : pushOn sts (k :: ks) M on = pushOn sts ks M (push1 sts M on k) := rfl
  rw [e]
  rcases pushOn_at sts M i ks (push1 sts M on k) with h | ⟨x, hx, h⟩
  ·by_cases hk : (sts.getD k default).arc.toNat = i
   ·exact .inr ⟨k, List.mem_cons_self .., hk⟩
   ·refine .inl ?_
    rw [h]
    show (on.set (sts.getD k default).arc.toNat _).getD i 0 = on.getD i 0
    rw [List.getD_eq_getElem?_getD, List.getElem?_set_ne hk, ← List.getD_eq_getElem?_getD]
  ·exact .inr ⟨x, List.mem_cons_of_mem _ hx, h⟩
theorem push_opt (hnr : Near (potF pots) l on n s sts dist rk) (ho : OptPot (potF pots) l on) (hn : NodesOk n l) (hl : pots.length = n) (hlen : on.length = l.length) {F : Int} (hF : ∀ v, v < n → kn sts v = true → dAt dist v ≤ F)
  {ks : List Nat} {t : Nat} (hP : Path rk l on n s sts ks t) (hkt : kn sts t = true) (M : Int) : OptPot (potF (newL sts dist F pots)) l (pushOn sts ks M on) := by
 intro i h h2
 have h2' : i < on.length := by rw [pushOn_length] at h2; exact h2
 rcases pushOn_at sts M i ks on with he | ⟨x, hx, he⟩
 ·have e : (pushOn sts ks M on)[i] = on[i] := by
   rw [List.getD_eq_getElem?_getD, List.getD_eq_getElem?_getD, List.getElem?_eq_getElem h2, List.getElem?_eq_getElem h2'] at he
   simpa using he
  rw [e]
  exact near_opt hnr ho hn hl hF i h h2'
 ·obtain ⟨q1, q2, q3⟩ := Path.known hnr ks t hP hkt x hx
  obtain ⟨u, j, fw, r, w, u1, u2, u3, u4, u5, _⟩ := hnr.par x q1 q3 q2
  rw [u4] at he
  have hij : j = i := by simpa using he
  subst hij
  have hr := rc_new (sts := sts) (dist := dist) (F := F) hl u3 u1 q1 h
  rw [if_pos u2, if_pos q3] at hr
  have : rc (potF (newL sts dist F pots)) l[j] = 0 := by
   cases fw with
   | true => rw [hr.1 rfl]; omega
   | false => rw [hr.2 rfl]; omega
  rw [this]
  exact ⟨fun _ => Int.le_refl _, fun _ => Int.le_refl _⟩
theorem near_isMax {amt : Int} {t : Nat} (hnr : Near (potF pots) l on n s sts dist rk) (hn : NodesOk n l) (hs : s < n) (hf : IsFlow n l s t on amt) (ht : kn sts t = false) : IsMax n l s t amt := by
 refine ⟨⟨on, hf⟩, fun u => kn sts u.toNat, by simpa using hnr.src.1, by simpa using ht, ?_⟩
 rw [← netOut_eq_cut _ l on hf.v.len fun i hi hi2 => ?_]
 ·exact hf.set hn ⟨by omega, by omega⟩ (by simpa using hnr.src.1) (by simpa using ht)
 ·obtain ⟨a, b, ha, hb, hfa, htb, e1, e2⟩ := redge_of hn hi hi2 (potF pots)
  have hbd := hf.v.bd i hi hi2
  rw [hfa, htb]
  simp only [Int.toNat_natCast]
  refine ⟨fun u1 u2 => ?_, fun u1 u2 => ?_⟩
  ·rcases Int.lt_or_eq_of_le hbd.2 with hlt | he
   ·have := (hnr.clo i true a b _ _ (e1 hlt) ha hb u1).1; rw [u2] at this; cases this
   ·exact he
  ·rcases Int.lt_or_eq_of_le hbd.1 with hlt | he
   ·have := (hnr.clo i false b a _ _ (e2 hlt) hb ha u2).1; rw [u1] at this; cases this
   ·exact he.symm
theorem farTo_le {n s : Nat} {l : List Arc} {on : List Int} {pots : List Int} {sts : List Step} {dist : List Int} {rk : Nat → Int} (hnr : Near (potF pots) l on n s sts dist rk) (hp : ∀ v, v < n → 0 ≤ pots.getD v 0) (k : Nat) (hk : k ≤ n) : farTo sts dist k ≤ 65536 * n := by
 obtain ⟨_, _, h⟩ := farTo_spec sts dist k
 rcases h with h | ⟨v, hv, hkv, h⟩
 ·omega
 ·have q := hnr.bd v (by omega) hkv
  have := hp v (by omega)
  simp only [potF, Int.toNat_natCast] at q
  omega
theorem sumTo_le {f g : Int → Int} : ∀ {n : Nat}, (∀ u : Int, 0 ≤ u → u < n → f u ≤ g u) → sumTo f n ≤ sumTo g n
 | 0, _ => Int.le_refl _
 | n + 1, h => by
  have := sumTo_le (f := f) (g := g) (n := n) fun u h1 h2 => h u h1 (by omega)
  have := h n (by omega) (by omega)
  simp only [sumTo]; omega
theorem sumTo_le_add {f g : Int → Int} {c : Int} {v : Nat} : ∀ {n : Nat}, v < n → (∀ u : Int, 0 ≤ u → u < n → f u ≤ g u) → f v + c ≤ g v → sumTo f n + c ≤ sumTo g n
 | 0, hv, _, _ => absurd hv (by omega)
 | n + 1, hv, h, hc => by
  simp only [sumTo]
  by_cases hvn : v = n
  ·subst hvn
   have := sumTo_le (f := f) (g := g) (n := v) fun u h1 h2 => h u h1 (by omega)
   omega
  ·have := sumTo_le_add (f := f) (g := g) (c := c) (v := v) (n := n) (by omega) (fun u h1 h2 => h u h1 (by omega)) hc
   have := h n (by omega) (by omega)
   omega
theorem sumTo_const (c : Int) : ∀ n : Nat, sumTo (fun _ => c) n = n * c
 | 0 => by simp [sumTo]
 | n + 1 => by simp only [sumTo]; rw [sumTo_const c n]; rw [show ((n + 1 : Nat) : Int) = n + 1 from rfl, Int.add_mul]; omega
def capS (B : Int) (pots : List Int) (n : Nat) : Int := sumTo (fun u => minI B (pots.getD u.toNat 0)) n
structure PInv (n s : Nat) (pots : List Int) : Prop where
 len : pots.length = n
 zero : pots.getD s 0 = 0
 bd : ∀ v, v < n → 0 ≤ pots.getD v 0 ∧ pots.getD v 0 ≤ capS (65536 * n) pots n
theorem PInv.le (h : PInv n s pots) {v : Nat} (hv : v < n) : pots.getD v 0 ≤ 65536 * n * n := by
 have h1 := (h.bd v hv).2
 have h2 : capS (65536 * n) pots n ≤ sumTo (fun _ => 65536 * (n : Int)) n := sumTo_le fun u _ _ => (minI_le _ _).1
 rw [sumTo_const, show (n : Int) * (65536 * n) = 65536 * n * n from Int.mul_comm _ _] at h2
 have h3 : pots.getD v 0 ≤ capS (65536 * n) pots n := h1
 exact Int.le_trans h3 h2
theorem PInv.init (s : Nat) : PInv n s (List.replicate n 0) := by
 have hz : ∀ v : Nat, (List.replicate n (0 : Int)).getD v 0 = 0 := fun v => by
  by_cases h : v < n <;> simp [h]
 refine ⟨by simp, hz s, fun v hv => ?_⟩
 rw [hz v]
 have : sumTo (fun _ => (0 : Int)) n ≤ capS (65536 * n) (List.replicate n 0) n := sumTo_le fun u _ _ => by
  simp only [hz, minI]; split <;> omega
 rw [sumTo_zero] at this
 omega
theorem PInv.step (h : PInv n s pots) (hnr : Near (potF pots) l on n s sts dist rk) (hs : s < n) : PInv n s (newL sts dist (farTo sts dist n) pots) := by
 obtain ⟨f0, f1, f2⟩ := farTo_spec sts dist n
 generalize farTo sts dist n = F at *
 have hat : ∀ v, v < n → (newL sts dist F pots).getD v 0 = pots.getD v 0 + (if kn sts v = true then dAt dist v else F) := fun v hv => newL_at (by rw [h.len]; exact hv)
 have hkn : ∀ v, v < n → kn sts v = true → 0 ≤ dAt dist v ∧ pots.getD v 0 + dAt dist v ≤ 65536 * n := fun v hv hk => by
  have q1 := hnr.nn v hv hk
  have q2 := hnr.bd v hv hk
  simp only [potF, Int.toNat_natCast] at q2
  omega
 have hmono : ∀ u : Int, 0 ≤ u → u < n → minI (65536 * n) (pots.getD u.toNat 0) ≤ minI (65536 * n) ((newL sts dist F pots).getD u.toNat 0) := fun u hu hun => by
  have hv : u.toNat < n := by omega
  rw [hat _ hv]
  have : 0 ≤ (if kn sts u.toNat = true then dAt dist u.toNat else F) := by
   split
   ·rename_i hk; exact (hkn _ hv hk).1
   ·exact f0
  generalize (if kn sts u.toNat = true then dAt dist u.toNat else F) = z at this ⊢
  unfold minI; split <;> split <;> omega
 have hnn : ∀ v, v < n → 0 ≤ (newL sts dist F pots).getD v 0 := fun v hv => by
  rw [hat v hv]
  have := (h.bd v hv).1
  split
  ·rename_i hk; have := (hkn v hv hk).1; omega
  ·omega
 refine ⟨by rw [newL_length]; exact h.len, ?_, fun v hv => ⟨hnn v hv, ?_⟩⟩
 ·rw [hat s hs, if_pos hnr.src.1, hnr.src.2, h.zero]; rfl
 ·by_cases hk : kn sts v = true
  · -- its own summand
   have q := hkn v hv hk
   have e : sumTo (fun _ => (0 : Int)) n + (newL sts dist F pots).getD v 0 ≤ capS (65536 * n) (newL sts dist F pots) n := sumTo_le_add hv (fun u h1 h2 => by
     have := hnn u.toNat (by omega)
     unfold minI; split <;> omega) (by
     simp only [Int.toNat_natCast]
     rw [hat v hv, if_pos hk]
     unfold minI; split <;> omega)
   rw [sumTo_zero] at e
   omega
  ·rw [hat v hv, if_neg hk]
   have hb := (h.bd v hv).2
   rcases f2 with hf | ⟨u, hu, hku, hfu⟩
   ·have : capS (65536 * n) pots n ≤ capS (65536 * n) (newL sts dist F pots) n := sumTo_le hmono
    omega
   ·have q := hkn u hu hku
    have : capS (65536 * n) pots n + F ≤ capS (65536 * n) (newL sts dist F pots) n := sumTo_le_add hu hmono (by
     simp only [Int.toNat_natCast]
     rw [hat u hu, if_pos hku, hfu]
     have := (h.bd u hu).1
     unfold minI; split <;> split <;> omega)
    omega
end
end Go.Proofs.YthobaaefdehoiaaGreat.Flo

/-
 Walk: Cheapest.
-/
set_option linter.all false
namespace Go.Proofs.YthobaaefdehoiaaGreat.Flo
open Go Go.W Go.RowKit
structure CheapOk (m s t : Nat) (l : List Arc) (amt : Int) (on pots : List Int) : Prop where
 flow : IsFlow m l s t on amt
 opt : OptPot (potF pots) l on
 plen : pots.length = m
 zero : pots.getD s 0 = 0
 bd : ∀ v, v < m → 0 ≤ pots.getD v 0 ∧ pots.getD v 0 ≤ 65536 * m * m
def cheapErr (n f t amt : Int) (l : List Arc) (most : Int) : Int := if endsErr n l f t ≠ 0 then endsErr n l f t else if (decide (amt < 0) || decide (65536 < amt)) = true then 1 else if most < amt then 15 else 0
theorem zero_opt {l : List Arc} {m : Nat} (hc : ∀ a ∈ l, 0 ≤ a.cost) : OptPot (potF (List.replicate m 0)) l (List.replicate l.length 0) := fun i h h2 => by
 have hz : ∀ u : Int, potF (List.replicate m 0) u = 0 := fun u => by
  by_cases h : u.toNat < m <;> simp [potF, h]
 have e : (List.replicate l.length (0 : Int))[i] = 0 := by simp
 have := hc _ (List.getElem_mem h)
 refine ⟨fun _ => ?_, fun hp => ?_⟩
 ·unfold rc; rw [hz, hz]; omega
 ·rw [e] at hp; omega
theorem pinv_small {n s : Nat} {pots : List Int} (h : PInv n s pots) (hn : n ≤ 64) : ∀ v, v < n → 0 ≤ pots.getD v 0 ∧ pots.getD v 0 ≤ 1000000000000 := fun v hv => by
 have h1 := h.le hv
 have h2 : 65536 * (n : Int) * n ≤ 65536 * 64 * 64 := Int.mul_le_mul (by omega) (by omega) (by omega) (by omega)
 have := (h.bd v hv).1
 omega
set_option maxHeartbeats 2000000 in
theorem flowCheapest (n f t amt : Int) (A : Option Addr) (l : List Arc) (cap : Nat) (w0 : World) (hz : ArcsAt w0 A l) :
  Calls Tryz.prog 42 #[.agg #[I n, .slice A l.length cap], I f, I t, I amt] w0 fun e w' => ∃ (most : Int), MostRet n f t l most (endsErr n l f t) ∧
   ((cheapErr n f t amt l most ≠ 0 ∧ e = .returned (.tuple #[.agg #[I 0, I 0, .slice none 0 0, .slice none 0 0], I (cheapErr n f t amt l most)]) ∧ Below w0.heap.size w0 w') ∨
    (cheapErr n f t amt l most = 0 ∧ ∃ (m s d : Nat) (go gp : Nat) (on pots : List Int), EndsOk n f t l m s d ∧ CheapOk m s d l amt on pots ∧ e = .returned (.tuple #[.agg #[I amt, I (costOf l on), .slice (some ⟨go, 0, none⟩) on.length on.length, .slice (some ⟨gp, 0, none⟩) pots.length pots.length], I 0]) ∧ SH w0 [] w' [⟨go, 3, on.map I⟩, ⟨gp, 3, pots.map I⟩])) := by
 have H := SH.refl w0
 refine Calls.ofWPc Tryz.func42 rfl Tryz.results42 Tryz.ntmps42 rfl <| Y.qr <| Y.bx (cA rfl) H ?_
 clear H; intro g4 w H
 refine Y.al H rfl rfl ?_
 clear H; intro g8 w H
 refine Y.b rfl <| Y.z <| Y.qr <| Y.v (Y.o H 1 rfl rfl) <| Y.a rfl <| Y.a rfl <| OPS.call (d := some 26) rfl rfl rfl (EvC.func (fun_run rfl)) (flowMost n f t A l cap w (hz.sh H)) ?_
 rintro _ w ⟨most, er, rfl, hM, hb⟩
 refine ⟨_, rfl, ?_⟩
 replace H := H.toBelow hb; clear hb
 obtain ⟨rfl, hM1, hM2⟩ := hM
 refine Y.v (Ev.mvT rfl) <| Y.v (Ev.extract rfl rfl) <| Y.v (Ev.extract rfl rfl) <| Y.b rfl <| Y.b rfl <| Y.z <| Y.q <| WP.block <| Y.qr <| Y.a rfl <| Y.v (Ev.neq rfl rfl) <| Y.v (Ev.asB rfl) <| Y.z ?_
 refine WP.cond rfl (fun hc2 => ?_) (fun hc2 => ?_)
 ·refine Y.qr <| Y.v (Ev.build (bld_104_ (e := fun _ => .int .i64 0))) <| Y.a rfl <| Y.ss 0 H rfl (cA rfl) rfl ?_
  clear H; intro w H
  refine Y.b rfl <| Y.z ?_
  refine WP.ret ⟨[_, _], ⟨(by exact resCellA 0 H rfl (agg_run rfl) (size_run rfl) (by rfl) rfl), rfl, trivial⟩, ?_⟩
  have h : endsErr n l f t ≠ 0 := by simpa using hc2
  have hce : cheapErr n f t amt l most = endsErr n l f t := by rw [cheapErr, if_pos h]
  exact ⟨most, ⟨rfl, hM1, hM2⟩, .inl ⟨by rw [hce]; exact h, by rw [hce]; rfl, H.below⟩⟩
 have h0 : endsErr n l f t = 0 := by simpa using hc2
 obtain ⟨m, s, d, hE⟩ := endsOk_of h0
 refine Y.qr <| Y.a rfl <| Y.v (Ev.lss rfl rfl) <| Y.v (Ev.mvB rfl) <| Y.g rfl rfl (fun hg => Y.m rfl) <| Y.g rfl rfl (fun hg => Ev.gtr (gvE hg rfl) rfl) <| Y.v (Ev.pickOr rfl rfl rfl) <| Y.v (Ev.asB rfl) <| Y.z ?_
 refine WP.cond rfl (fun hc4 => ?_) (fun hc4 => ?_)
 ·refine Y.qr <| Y.v (Ev.build (bld_104_ (e := fun _ => .int .i64 0))) <| Y.ss 0 H rfl (cA rfl) rfl ?_
  clear H; intro w H
  refine Y.b rfl <| Y.z ?_
  refine WP.ret ⟨[_, _], ⟨(by exact resCellA 0 H rfl (agg_run rfl) (size_run rfl) (by rfl) rfl), rfl, trivial⟩, ?_⟩
  have hce : cheapErr n f t amt l most = 1 := by rw [cheapErr, if_neg (by simp [h0]), if_pos hc4]
  exact ⟨most, ⟨rfl, hM1, hM2⟩, .inl ⟨by rw [hce]; decide, by rw [hce]; rfl, H.below⟩⟩
 refine Y.qr <| Y.a rfl <| Y.a rfl <| Y.v (Ev.gtr rfl rfl) <| Y.v (Ev.asB rfl) <| Y.z ?_
 refine WP.cond rfl (fun hc6 => ?_) (fun hc6 => ?_)
 ·refine Y.qr <| Y.v (Ev.build (bld_104_ (e := fun _ => .int .i64 0))) <| Y.ss 0 H rfl (cA rfl) rfl ?_
  clear H; intro w H
  refine Y.b rfl <| Y.z ?_
  refine WP.ret ⟨[_, _], ⟨(by exact resCellA 0 H rfl (agg_run rfl) (size_run rfl) (by rfl) rfl), rfl, trivial⟩, ?_⟩
  have hce : cheapErr n f t amt l most = 15 := by rw [cheapErr, if_neg (by simp [h0]), if_neg (by simp [hc4]), if_pos (by simpa using hc6)]
  exact ⟨most, ⟨rfl, hM1, hM2⟩, .inl ⟨by rw [hce]; decide, by rw [hce]; rfl, H.below⟩⟩
 have hce : cheapErr n f t amt l most = 0 := by rw [cheapErr, if_neg (by simp [h0]), if_neg (by simp [hc4]), if_neg (by simpa using hc6)]
 have hma : amt ≤ most := by simp at hc6; omega
 have ha0 : 0 ≤ amt ∧ amt ≤ 65536 := by simp at hc4; omega
 have e1 := hE.hn
 have e2 := hE.hf
 have e3 := hE.ht
 subst e1 e2 e3
 have hN := hE.net
 have hn2 := hN.n2
 have hll := hN.len
 obtain ⟨m', hm', hmax⟩ := hM2 h0
 rw [show m' = m from by omega] at hmax
 clear hm'
 refine Y.k <| Y.q ?_
 refine WP.rheldC [12, 13, 47, 48, 49, 50, 51, 52, 53, 54, 55] (fun u w' => ∃ g12 g51 g55 : Nat, u 12 = .pointer (some ⟨g12, 0, none⟩) ∧ u 13 = .slice (some ⟨g55, 0, none⟩) m m ∧ SH w0 [] w' [⟨g12, 127, [I m, .slice A l.length cap, .slice (some ⟨g51, 0, none⟩) l.length l.length]⟩, ⟨g51, 3, (List.replicate l.length 0).map I⟩, ⟨g55, 3, (List.replicate m 0).map I⟩, ⟨g8, 104, [I 0, I 0, .slice none 0 0, .slice none 0 0]⟩, ⟨g4, 101, [I m, .slice A l.length cap]⟩]) mixed H ?_ ?_
 ·clear H; intro w hbw8 H
  refine Y.t 0 H rfl rfl (fun w H => Y.o H 1 rfl rfl) <| Y.t 1 H rfl rfl (fun w H => Y.f rfl rfl) <| Y.t 2 H rfl rfl (fun w H => Y.l H 1 rfl rfl rfl) <| Y.t 3 H rfl rfl (fun w H => Y.n rfl) <| Y.t 6 H rfl rfl (fun w H => Y.f rfl rfl) <| Y.t 7 H rfl rfl (fun w H => Y.l H 1 rfl rfl rfl) ?_
  refine Y.A [4, 8, 9] rfl ⟨⟨_, rfl, ?_⟩, ⟨_, rfl, ?_⟩, ⟨_, rfl, ?_⟩, trivial⟩
  ·refine Y.mk H (sl_run rfl) ?_
   clear H; intro g51 w H
   refine Y.z <| ⟨(H.drop (List.sublist_cons_self _ _)), ?_⟩
   refine Y.t 5 (H.drop (List.sublist_cons_self _ _)) rfl rfl (fun w H => Ev.build (bld_127_0_1 rfl rfl)) ?_
   refine Y.A2 8 9 rfl rfl rfl ?_ ?_
   ·refine Y.mk H (sl_run rfl) ?_
    clear H; intro g55 w H
    refine Y.z <| ⟨(H.drop ((List.sublist_cons_self _ _).trans (List.sublist_cons_self _ _))), ?_⟩
    refine Y.A1 9 rfl rfl <| Y.al H rfl rfl ?_
    clear H; intro g12 w H
    refine Y.z <| ⟨(H.drop ((List.sublist_cons_self _ _).trans ((List.sublist_cons_self _ _).trans (List.sublist_cons_self _ _)))), ?_⟩
    refine Y.A1 10 rfl rfl <| Y.ss 0 H rfl (cA rfl) rfl ?_
    clear H; intro w H
    refine Y.z <| ⟨(H.drop ((List.sublist_cons_self _ _).trans ((List.sublist_cons_self _ _).trans (List.sublist_cons_self _ _)))), ?_⟩
    refine Y.t 11 (H.drop ((List.sublist_cons_self _ _).trans ((List.sublist_cons_self _ _).trans (List.sublist_cons_self _ _)))) rfl rfl (fun w H => Ev.asS rfl) <| Y.dn ?_
    refine ⟨Y.ag, g12, g51, g55, rfl, rfl, ?_⟩; rw [← mkL_ones, ← mkL_ones]; exact H.reidx [0, 2, 1, 3, 4] (by decide) rfl
   ·refine Y.al H rfl rfl ?_
    clear H; intro g12 w H
    refine Y.z <| ⟨(H.drop ((List.sublist_cons_self _ _).trans (List.sublist_cons_self _ _))), ?_⟩
    refine Y.A2 8 10 rfl rfl rfl ?_ ?_
    ·refine Y.mk H (sl_run rfl) ?_
     clear H; intro g55 w H
     refine Y.z <| ⟨(H.drop ((List.sublist_cons_self _ _).trans ((List.sublist_cons_self _ _).trans (List.sublist_cons_self _ _)))), ?_⟩
     refine Y.A1 10 rfl rfl <| Y.ss 1 H rfl (cA rfl) rfl ?_
     clear H; intro w H
     refine Y.z <| ⟨(H.drop ((List.sublist_cons_self _ _).trans ((List.sublist_cons_self _ _).trans (List.sublist_cons_self _ _)))), ?_⟩
     refine Y.t 11 (H.drop ((List.sublist_cons_self _ _).trans ((List.sublist_cons_self _ _).trans (List.sublist_cons_self _ _)))) rfl rfl (fun w H => Ev.asS rfl) <| Y.dn ?_
     refine ⟨Y.ag, g12, g51, g55, rfl, rfl, ?_⟩; rw [← mkL_ones, ← mkL_ones]; exact H.reidx [1, 2, 0, 3, 4] (by decide) rfl
    ·refine Y.ss 0 H rfl (cA rfl) rfl ?_
     clear H; intro w H
     refine Y.z <| ⟨(H.drop ((List.sublist_cons_self _ _).trans (List.sublist_cons_self _ _))), ?_⟩
     refine Y.A1 8 rfl rfl <| Y.mk H (sl_run rfl) ?_
     clear H; intro g55 w H
     refine Y.z <| ⟨(H.drop ((List.sublist_cons_self _ _).trans ((List.sublist_cons_self _ _).trans (List.sublist_cons_self _ _)))), ?_⟩
     refine Y.t 11 (H.drop ((List.sublist_cons_self _ _).trans ((List.sublist_cons_self _ _).trans (List.sublist_cons_self _ _)))) rfl rfl (fun w H => Ev.asS rfl) <| Y.dn ?_
     refine ⟨Y.ag, g12, g51, g55, rfl, rfl, ?_⟩; rw [← mkL_ones, ← mkL_ones]; exact H.reidx [1, 2, 0, 3, 4] (by decide) rfl
  ·refine Y.mk H (sl_run rfl) ?_
   clear H; intro g55 w H
   refine Y.z <| ⟨(H.drop (List.sublist_cons_self _ _)), ?_⟩
   refine Y.A2 4 9 rfl rfl rfl ?_ ?_
   ·refine Y.mk H (sl_run rfl) ?_
    clear H; intro g51 w H
    refine Y.z <| ⟨(H.drop ((List.sublist_cons_self _ _).trans (List.sublist_cons_self _ _))), ?_⟩
    refine Y.t 5 (H.drop ((List.sublist_cons_self _ _).trans (List.sublist_cons_self _ _))) rfl rfl (fun w H => Ev.build (bld_127_0_1 rfl rfl)) <| Y.A1 9 rfl rfl <| Y.al H rfl rfl ?_
    clear H; intro g12 w H
    refine Y.z <| ⟨(H.drop ((List.sublist_cons_self _ _).trans ((List.sublist_cons_self _ _).trans (List.sublist_cons_self _ _)))), ?_⟩
    refine Y.A1 10 rfl rfl <| Y.ss 0 H rfl (cA rfl) rfl ?_
    clear H; intro w H
    refine Y.z <| ⟨(H.drop ((List.sublist_cons_self _ _).trans ((List.sublist_cons_self _ _).trans (List.sublist_cons_self _ _)))), ?_⟩
    refine Y.t 11 (H.drop ((List.sublist_cons_self _ _).trans ((List.sublist_cons_self _ _).trans (List.sublist_cons_self _ _)))) rfl rfl (fun w H => Ev.asS rfl) <| Y.dn ?_
    refine ⟨Y.ag, g12, g51, g55, rfl, rfl, ?_⟩; rw [← mkL_ones, ← mkL_ones]; exact H.reidx [0, 1, 2, 3, 4] (by decide) rfl
   ·refine Y.al H rfl rfl ?_
    clear H; intro g12 w H
    refine Y.z <| ⟨(H.drop ((List.sublist_cons_self _ _).trans (List.sublist_cons_self _ _))), ?_⟩
    refine Y.A1 4 rfl rfl <| Y.mk H (sl_run rfl) ?_
    clear H; intro g51 w H
    refine Y.z <| ⟨(H.drop ((List.sublist_cons_self _ _).trans ((List.sublist_cons_self _ _).trans (List.sublist_cons_self _ _)))), ?_⟩
    refine Y.t 5 (H.drop ((List.sublist_cons_self _ _).trans ((List.sublist_cons_self _ _).trans (List.sublist_cons_self _ _)))) rfl rfl (fun w H => Ev.build (bld_127_0_1 rfl rfl)) <| Y.A1 10 rfl rfl <| Y.ss 1 H rfl (cA rfl) rfl ?_
    clear H; intro w H
    refine Y.z <| ⟨(H.drop ((List.sublist_cons_self _ _).trans ((List.sublist_cons_self _ _).trans (List.sublist_cons_self _ _)))), ?_⟩
    refine Y.t 11 (H.drop ((List.sublist_cons_self _ _).trans ((List.sublist_cons_self _ _).trans (List.sublist_cons_self _ _)))) rfl rfl (fun w H => Ev.asS rfl) <| Y.dn ?_
    refine ⟨Y.ag, g12, g51, g55, rfl, rfl, ?_⟩; rw [← mkL_ones, ← mkL_ones]; exact H.reidx [1, 0, 2, 3, 4] (by decide) rfl
  ·refine Y.al H rfl rfl ?_
   clear H; intro g12 w H
   refine Y.z <| ⟨(H.drop (List.sublist_cons_self _ _)), ?_⟩
   refine Y.A2 4 8 rfl rfl rfl ?_ ?_
   ·refine Y.mk H (sl_run rfl) ?_
    clear H; intro g51 w H
    refine Y.z <| ⟨(H.drop ((List.sublist_cons_self _ _).trans (List.sublist_cons_self _ _))), ?_⟩
    refine Y.t 5 (H.drop ((List.sublist_cons_self _ _).trans (List.sublist_cons_self _ _))) rfl rfl (fun w H => Ev.build (bld_127_0_1 rfl rfl)) ?_
    refine Y.A2 8 10 rfl rfl rfl ?_ ?_
    ·refine Y.mk H (sl_run rfl) ?_
     clear H; intro g55 w H
     refine Y.z <| ⟨(H.drop ((List.sublist_cons_self _ _).trans ((List.sublist_cons_self _ _).trans (List.sublist_cons_self _ _)))), ?_⟩
     refine Y.A1 10 rfl rfl <| Y.ss 2 H rfl (cA rfl) rfl ?_
     clear H; intro w H
     refine Y.z <| ⟨(H.drop ((List.sublist_cons_self _ _).trans ((List.sublist_cons_self _ _).trans (List.sublist_cons_self _ _)))), ?_⟩
     refine Y.t 11 (H.drop ((List.sublist_cons_self _ _).trans ((List.sublist_cons_self _ _).trans (List.sublist_cons_self _ _)))) rfl rfl (fun w H => Ev.asS rfl) <| Y.dn ?_
     refine ⟨Y.ag, g12, g51, g55, rfl, rfl, ?_⟩; rw [← mkL_ones, ← mkL_ones]; exact H.reidx [2, 1, 0, 3, 4] (by decide) rfl
    ·refine Y.ss 1 H rfl (cA rfl) rfl ?_
     clear H; intro w H
     refine Y.z <| ⟨(H.drop ((List.sublist_cons_self _ _).trans (List.sublist_cons_self _ _))), ?_⟩
     refine Y.A1 8 rfl rfl <| Y.mk H (sl_run rfl) ?_
     clear H; intro g55 w H
     refine Y.z <| ⟨(H.drop ((List.sublist_cons_self _ _).trans ((List.sublist_cons_self _ _).trans (List.sublist_cons_self _ _)))), ?_⟩
     refine Y.t 11 (H.drop ((List.sublist_cons_self _ _).trans ((List.sublist_cons_self _ _).trans (List.sublist_cons_self _ _)))) rfl rfl (fun w H => Ev.asS rfl) <| Y.dn ?_
     refine ⟨Y.ag, g12, g51, g55, rfl, rfl, ?_⟩; rw [← mkL_ones, ← mkL_ones]; exact H.reidx [2, 1, 0, 3, 4] (by decide) rfl
   ·refine Y.mk H (sl_run rfl) ?_
    clear H; intro g55 w H
    refine Y.z <| ⟨(H.drop ((List.sublist_cons_self _ _).trans (List.sublist_cons_self _ _))), ?_⟩
    refine Y.A1 4 rfl rfl <| Y.mk H (sl_run rfl) ?_
    clear H; intro g51 w H
    refine Y.z <| ⟨(H.drop ((List.sublist_cons_self _ _).trans ((List.sublist_cons_self _ _).trans (List.sublist_cons_self _ _)))), ?_⟩
    refine Y.t 5 (H.drop ((List.sublist_cons_self _ _).trans ((List.sublist_cons_self _ _).trans (List.sublist_cons_self _ _)))) rfl rfl (fun w H => Ev.build (bld_127_0_1 rfl rfl)) <| Y.A1 10 rfl rfl <| Y.ss 2 H rfl (cA rfl) rfl ?_
    clear H; intro w H
    refine Y.z <| ⟨(H.drop ((List.sublist_cons_self _ _).trans ((List.sublist_cons_self _ _).trans (List.sublist_cons_self _ _)))), ?_⟩
    refine Y.t 11 (H.drop ((List.sublist_cons_self _ _).trans ((List.sublist_cons_self _ _).trans (List.sublist_cons_self _ _)))) rfl rfl (fun w H => Ev.asS rfl) <| Y.dn ?_
    refine ⟨Y.ag, g12, g51, g55, rfl, rfl, ?_⟩; rw [← mkL_ones, ← mkL_ones]; exact H.reidx [2, 0, 1, 3, 4] (by decide) rfl
 clear H
 rintro u w ⟨g12, g51, g55, h12, h13, H⟩
 refine WP.know (t := 12) h12 (WP.know (t := 13) h13 ?_)
 refine Y.q <| Y.qr <| Y.a rfl <| Y.b rfl <| Y.z <| WP.block <| WP.loop [14, 15, 16, 17, 18, 19, 20, 21, 57, 58, 59, 60, 61, 62, 63, 64, 65, 66, 67, 68, 69, 70, 71, 72, 73, 74, 75, 76, 77, 78, 79, 80, 81, 82, 83, 84, 85, 86, 87, 88, 89, 90, 91, 92, 93, 94, 95, 96, 97, 98, 99, 100, 101, 102, 103, 104, 105, 106, 107, 108, 109, 110, 111, 112, 113, 114, 115, 116] (fun k e w' => ∃ (left : Int) (on pots : List Int), on.length = l.length ∧ e 14 = I left ∧ 0 ≤ left ∧ left ≤ amt ∧ left = k ∧ IsFlow m l s d on (amt - left) ∧ OptPot (potF pots) l on ∧ PInv m s pots ∧ SH w0 [] w' [⟨g12, 127, [I m, .slice A l.length cap, .slice (some ⟨g51, 0, none⟩) l.length l.length]⟩, ⟨g51, 3, on.map I⟩, ⟨g55, 3, pots.map I⟩, ⟨g8, 104, [I 0, I 0, .slice none 0 0, .slice none 0 0]⟩, ⟨g4, 101, [I m, .slice A l.length cap]⟩]) (amt.toNat) (⟨amt, List.replicate l.length 0, List.replicate m 0, by simp, rfl, ha0.1, Int.le_refl _, by omega, by rw [Int.sub_self]; exact zero_isFlow fun a ha => (hN.caps a ha).1.1, zero_opt fun a ha => (hN.caps a ha).2.1, PInv.init s, H⟩) ?_
 clear H
 rintro k u w ⟨left, on, pots, hol, h14, hl0, hl1, hlk, hfl, hop, hpi, H⟩
 refine WP.know (t := 14) h14 ?_
 have hpl := hpi.len
 have hsz := pinv_small hpi hn2
 have hob : ∀ i (h : i < on.length), 0 ≤ on[i] ∧ on[i] ≤ 65536 := fun i h => by
  have h1 := hfl.v.bd i (by omega) h
  have h2 := (hN.caps l[i] (List.getElem_mem (by omega))).1
  omega
 refine Y.q <| Y.qr <| Y.a rfl <| Y.v (Ev.gtr rfl rfl) <| Y.z ?_
 refine WP.cond rfl (fun hc10 => ?_) (fun hc10 => ?_)
 ·have hlp : 0 < left := by simpa using hc10
  refine Y.k <| WP.block <| Y.qr <| Y.v (Y.o H 0 rfl rfl) <| Y.a rfl <| Y.v (Ev.mvS rfl) ?_
  have hnear := flowNearest m s A (some ⟨g51, 0, none⟩) (some ⟨g55, 0, none⟩) l on pots cap l.length m w hE.s1 hN hol hpl (hz.sh H) (onesOwn H 1 rfl) (onesOwn H 2 rfl) hfl.v hop hpi.zero (fun i h => by
   have := hsz i (by omega)
   rw [List.getD_eq_getElem?_getD, List.getElem?_eq_getElem h] at this
   simpa using this)
  rw [hol, hpl] at hnear
  refine OPS.call (d := some 63) rfl rfl rfl (EvC.func (fun_run rfl)) (hnear) ?_
  rintro _ w ⟨gS, gI, sts, dist, rk, rfl, hnr, Hc⟩
  refine ⟨_, rfl, ?_⟩
  replace H := SH.call (L1 := [⟨g12, 127, [I m, .slice A l.length cap, .slice (some ⟨g51, 0, none⟩) l.length l.length]⟩, ⟨g51, 3, on.map I⟩, ⟨g55, 3, pots.map I⟩, ⟨g8, 104, [I 0, I 0, .slice none 0 0, .slice none 0 0]⟩, ⟨g4, 101, [I m, .slice A l.length cap]⟩]) (Lv := []) (by simpa using H) Hc
  clear Hc hnear
  simp only [List.cons_append, List.nil_append] at H
  have hsl := hnr.slen
  have hdl := hnr.dlen
  refine Y.v (Ev.mvT rfl) <| Y.v (Ev.extract rfl rfl) <| Y.v (Ev.extract rfl rfl) <| Y.v (Ev.asS rfl) <| Y.v (Ev.asS rfl) <| Y.z <| Y.qr <| Y.b rfl <| Y.z <| Y.q <| Y.qr <| Y.v (Ev.mvS rfl) <| Y.v (Y.n rfl) <| Y.a rfl <| Y.z <| WP.block <| WP.loop [17, 18, 19, 68, 69, 70, 71, 72, 73, 74, 75, 76, 77, 78, 79, 80, 81] (fun g e w' => ∃ q : Nat, q + g = m ∧ e 68 = I q ∧ e 17 = I (farTo sts dist q) ∧ SH w0 [] w' [⟨g12, 127, [I m, .slice A l.length cap, .slice (some ⟨g51, 0, none⟩) l.length l.length]⟩, ⟨g51, 3, on.map I⟩, ⟨g55, 3, pots.map I⟩, ⟨g8, 104, [I 0, I 0, .slice none 0 0, .slice none 0 0]⟩, ⟨g4, 101, [I m, .slice A l.length cap]⟩, ⟨gS, 132, sts.flatMap stepCells⟩, ⟨gI, 3, dist.map I⟩]) (m) (⟨0, by omega, rfl, rfl, H⟩) ?_
  clear H
  rintro g u2 w ⟨q, hq, h68, h17, H⟩
  refine WP.know (t := 68) h68 (WP.know (t := 17) h17 ?_)
  refine Y.qr <| Y.v (Ev.lss rfl rfl) <| Y.z <| Y.q ?_
  refine WP.cond rfl (fun hc14 => ?_) (fun hc14 => ?_)
  ·have hqm : q < m := by simpa using hc14
   obtain ⟨_, _, e1, hrow⟩ := rowsOwn' stepCells_len H 5 rfl q (by omega)
   cases e1
   have hkq : kn sts q = sts[q].known := by unfold kn; simp [hsl, hqm]
   have hdq : dAt dist q = dist[q]'(by omega) := by simp [dAt, hdl, hqm]
   refine Y.k <| Y.q <| WP.block <| Y.qr <| Y.a rfl <| Y.v (Y.X rfl rfl rfl rfl rfl) <| Y.v (by (change Ev _ _ _ _ (Op.load 132 (Operand.tmp 71)) _; exact Ev.loadN (stepCells sts[q]) (agg_run rfl) (size_run rfl) rfl hrow)) <| Y.al H rfl rfl ?_
   clear H; intro g19 w H
   refine Y.b rfl <| Y.ss 0 H rfl (cA rfl) rfl ?_
   clear H; intro w H
   refine Y.z <| Y.qr <| Y.fa rfl rfl <| Y.j H 0 rfl rfl rfl <| Y.z ?_
   refine WP.cond rfl (fun hc16 => ?_) (fun hc16 => ?_)
   ·have hfar : farTo sts dist (q + 1) = (if farTo sts dist q < dist[q] then dist[q] else farTo sts dist q) := by rw [farTo, if_pos (by rw [hkq]; exact hc16), hdq]
    refine Y.r ?_
    obtain ⟨_, _, e1, hdc⟩ := onesOwn H 7 rfl q (by omega)
    cases e1
    refine Y.a rfl <| Y.v (Ev.mvS rfl) <| Y.a rfl <| Y.v (Y.x rfl rfl rfl rfl) <| Y.v (Y.c (by assumption) rfl) ?_
    refine Y.v (Ev.max rfl rfl) <| Y.b rfl <| Y.z <| Y.r <| Y.v (Y.p rfl rfl) <| Y.a rfl <| Y.z ?_
    exact ⟨Y.ag, g - 1, by omega, q + 1, by omega, rfl, by rw [hfar]; rfl, H.drop (List.sublist_cons_self _ _)⟩
   have hfar : farTo sts dist (q + 1) = farTo sts dist q := by rw [farTo, if_neg (by rw [hkq, hc16]; simp)]
   refine Y.k <| Y.r <| Y.v (Y.p rfl rfl) <| Y.a rfl <| Y.z ?_
   exact ⟨Y.ag, g - 1, by omega, q + 1, by omega, rfl, by rw [hfar]; rfl, H.drop (List.sublist_cons_self _ _)⟩
  have hqm : m = q := by simp at hc14; omega
  subst hqm
  obtain ⟨hF0, hF1, _⟩ := farTo_spec sts dist m
  have hpi2 := hpi.step hnr hE.s1
  generalize hF : farTo sts dist m = F at *
  have hnl := newL_length sts dist F pots
  refine WP.exit <| XB.hit <| Y.q <| Y.qr <| Y.v (Ev.mvS rfl) <| Y.v (Y.n rfl) <| Y.a rfl <| Y.z <| WP.block <| WP.loop [20, 21, 84, 85, 86, 87, 88, 89, 90, 91, 92, 93, 94, 95, 96, 97, 98, 99, 100, 101, 102, 103, 104, 105, 106, 107, 108] (fun g e w' => ∃ q : Nat, q + g = m ∧ e 84 = I q ∧ SH w0 [] w' [⟨g12, 127, [I m, .slice A l.length cap, .slice (some ⟨g51, 0, none⟩) l.length l.length]⟩, ⟨g51, 3, on.map I⟩, ⟨g55, 3, (mixL (newL sts dist F pots) pots q).map I⟩, ⟨g8, 104, [I 0, I 0, .slice none 0 0, .slice none 0 0]⟩, ⟨g4, 101, [I m, .slice A l.length cap]⟩, ⟨gS, 132, sts.flatMap stepCells⟩, ⟨gI, 3, dist.map I⟩]) (m) (⟨0, by omega, rfl, by rw [mixL_zero]; exact H⟩) ?_
  clear H hq
  rintro g u3 w ⟨q, hq, h84, H⟩
  refine WP.know (t := 84) h84 <| Y.qr <| Y.v (Ev.lss rfl rfl) <| Y.z <| Y.q ?_
  refine WP.cond rfl (fun hc20 => ?_) (fun hc20 => ?_)
  ·have hqm : q < m := by simpa using hc20
   obtain ⟨_, _, e1, hrow⟩ := rowsOwn' stepCells_len H 5 rfl q (by omega)
   cases e1
   have hkq : kn sts q = sts[q].known := by unfold kn; simp [hsl, hqm]
   have hdq : dAt dist q = dist[q]'(by omega) := by simp [dAt, hdl, hqm]
   have hml : (mixL (newL sts dist F pots) pots q).length = m := by rw [mixL_length hnl (by omega)]; omega
   have hpq : pots.getD q 0 = pots[q]'(by omega) := by simp [hpl, hqm]
   have hmq : (mixL (newL sts dist F pots) pots q)[q]'(by omega) = pots[q]'(by omega) := by
    have := mixL_get (m := pots) hnl (show q < (newL sts dist F pots).length by omega)
    rw [List.getElem?_eq_getElem (by omega), List.getElem?_eq_getElem (by omega)] at this
    simpa using this
   have hnq : (newL sts dist F pots)[q]'(by omega) = pots[q]'(by omega) + (if kn sts q = true then dist[q]'(by omega) else F) := by
    have := newL_at (sts := sts) (dist := dist) (F := F) (show q < pots.length by omega)
    rw [hpq, hdq, List.getD_eq_getElem?_getD, List.getElem?_eq_getElem (by omega)] at this
    simpa using this
   have hms := mixL_set (m := pots) hnl (show q < (newL sts dist F pots).length by omega)
   have hbq := hsz q hqm
   rw [hpq] at hbq
   have hkb : kn sts q = true → 0 ≤ dist[q]'(by omega) ∧ dist[q]'(by omega) ≤ 65536 * m := fun hk => by
    have q1 := hnr.nn q hqm hk
    have q2 := hnr.bd q hqm hk
    simp only [pof, Int.toNat_natCast] at q2
    rw [hpq] at q2
    rw [hdq] at q1 q2; omega
   refine Y.k <| Y.q <| WP.block <| Y.qr <| Y.a rfl <| Y.v (Y.X rfl rfl rfl rfl rfl) <| Y.v (by (change Ev _ _ _ _ (Op.load 132 (Operand.tmp 87)) _; exact Ev.loadN (stepCells sts[q]) (agg_run rfl) (size_run rfl) rfl hrow)) <| Y.al H rfl rfl ?_
   clear H; intro g21 w H
   refine Y.b rfl <| Y.ss 0 H rfl (cA rfl) rfl ?_
   clear H; intro w H
   refine Y.z <| Y.qr <| Y.fa rfl rfl <| Y.j H 0 rfl rfl rfl <| Y.z ?_
   refine WP.cond rfl (fun hc22 => ?_) (fun hc22 => ?_)
   ·have hkb2 := hkb (by rw [hkq]; exact hc22)
    rw [if_pos (by rw [hkq]; exact hc22)] at hnq
    refine WP.rtail 10 mixed (by kernel_rfl) H ?_
    clear H; intro w hbw23 H
    obtain ⟨_, _, e1, hpc⟩ := onesOwn H 3 rfl q (by omega)
    cases e1
    rw [hmq] at hpc
    obtain ⟨_, _, e1, hdc⟩ := onesOwn H 7 rfl q (by omega)
    cases e1
    refine Y.v (Ev.mvS rfl) <| Y.a rfl <| Y.v (Y.x rfl rfl rfl rfl) <| Y.v (Y.c (by assumption) rfl) ?_
    refine Y.v (Ev.mvS rfl) <| Y.a rfl <| Y.v (Y.x rfl rfl rfl rfl) <| Y.v (Y.c (by assumption) rfl) ?_
    refine Y.v (Y.p rfl rfl) <| Y.v (Y.x rfl rfl rfl rfl) <| OPS.nil_s ?_
    have hpu : putL ((mixL (newL sts dist F pots) pots q).map I) (0 + q) [I (pots[q] + dist[q])] = (mixL (newL sts dist F pots) pots (q + 1)).map I := by rw [Nat.zero_add, putL_ones, ← hnq, hms]
    refine OPS.store (vs := [I (pots[q] + dist[q])]) 3 _ rfl rfl rfl (size_run rfl) rfl (cI rfl) rfl rfl H rfl (by simp only [List.length_map, hml]; omega) ?_
    clear H; intro w H
    simp only [List.set_cons_zero, List.set_cons_succ] at H
    rw [hpu] at H
    refine Y.z <| Y.r <| Y.v (Y.p rfl rfl) <| Y.a rfl <| Y.z ?_
    exact ⟨Y.ag, g - 1, by omega, q + 1, by omega, rfl, H.drop (List.sublist_cons_self _ _)⟩
   rw [if_neg (by rw [hkq, hc22]; simp)] at hnq
   have hFb : F ≤ 65536 * m := by
    rw [← hF]
    exact farTo_le hnr (fun v hv => (hsz v hv).1) m (Nat.le_refl _)
   refine Y.r ?_
   obtain ⟨_, _, e1, hpc⟩ := onesOwn H 3 rfl q (by omega)
   cases e1
   rw [hmq] at hpc
   refine Y.v (Ev.mvS rfl) <| Y.a rfl <| Y.v (Y.x rfl rfl rfl rfl) <| Y.v (Y.c (by assumption) rfl) ?_
   refine Y.a rfl <| Y.v (Y.p rfl rfl) <| Y.v (Y.x rfl rfl rfl rfl) ?_
   have hpu : putL ((mixL (newL sts dist F pots) pots q).map I) (0 + q) [I (pots[q] + F)] = (mixL (newL sts dist F pots) pots (q + 1)).map I := by rw [Nat.zero_add, putL_ones, ← hnq, hms]
   refine OPS.store (vs := [I (pots[q] + F)]) 3 _ rfl rfl rfl (size_run rfl) rfl (cI rfl) rfl rfl H rfl (by simp only [List.length_map, hml]; omega) ?_
   clear H; intro w H
   simp only [List.set_cons_zero, List.set_cons_succ] at H
   rw [hpu] at H
   refine Y.z <| Y.r <| Y.v (Y.p rfl rfl) <| Y.a rfl <| Y.z ?_
   exact ⟨Y.ag, g - 1, by omega, q + 1, by omega, rfl, H.drop (List.sublist_cons_self _ _)⟩
  have hqm2 : q = m := by simp at hc20; omega
  have hma : mixL (newL sts dist F pots) pots m = newL sts dist F pots := by
   have h := mixL_all hnl
   rw [show (newL sts dist F pots).length = m by omega] at h
   exact h
  rw [hqm2, hma] at H
  have htk : kn sts d = true := by
   cases hk : kn sts d with
   | true => rfl
   | false =>
    have hmx := near_isMax hnr hN.nodes hE.s1 hfl hk
    have := IsMax.unique hN.nodes ⟨by omega, by have := hE.s1; omega⟩ hmax hmx
    omega
  obtain ⟨ks, hkl, hP⟩ := path_of (hnr.tree (st := ⟨sts, dist, [], 0, none, 0, []⟩)) m d hE.d1 htk (hnr.rkb d hE.d1 htk).2
  obtain ⟨m1, m2, m3⟩ := pushMin_spec sts ks left hlp fun x hx => by obtain ⟨p, _, hEd⟩ := hP.edge x hx; exact hEd.room_pos
  have hfl2 := push_isFlow (by omega) hE.ne hP m3 hfl
  have hop2 := push_opt hnr hop hN.nodes hpl hol hF1 hP htk (pushMin sts ks left)
  have hgS : gS ≠ g51 := by have := H.nodup; simp at this; exact fun he => by subst he; simp at this
  refine WP.exit <| XB.hit <| Y.r <| Y.a rfl <| Y.v (Y.o H 0 rfl rfl) <| Y.v (Ev.mvS rfl) <| Y.a rfl <| Y.a rfl <| Y.a rfl ?_
  have hpu := flowPush g51 A (some ⟨gS, 0, none⟩) l.length cap l.length m m s d left s d rfl rfl sts on ks w (rowsOwn' stepCells_len H 5 rfl) (fun _ b o he => by cases he; simpa using hgS) (hP.chain hsl hol) (by omega) (by omega) (fun i h => by have := hob i h; omega) (H.reidx (L' := [⟨g51, 3, on.map I⟩]) [1] (by decide) rfl |>.restart (List.Sublist.refl _))
  rw [hol, hsl] at hpu
  refine OPS.call (d := some 115) rfl rfl rfl (EvC.func (fun_run rfl)) (hpu) ?_
  rintro _ w ⟨rfl, Hc⟩
  refine ⟨_, rfl, ?_⟩
  replace H := SH.call (L1 := [⟨g12, 127, [I m, .slice A l.length cap, .slice (some ⟨g51, 0, none⟩) l.length l.length]⟩, ⟨g55, 3, (newL sts dist F pots).map I⟩, ⟨g8, 104, [I 0, I 0, .slice none 0 0, .slice none 0 0]⟩, ⟨g4, 101, [I m, .slice A l.length cap]⟩]) (Lv := [⟨g51, 3, on.map I⟩]) (H.reidx [0, 2, 3, 4, 1] (by decide) rfl) Hc
  clear Hc hpu
  refine Y.v (Y.s rfl rfl) <| Y.b rfl <| Y.z ?_
  exact ⟨Y.ag, k - (pushMin sts ks left).toNat, by omega, left - pushMin sts ks left, pushOn sts ks (pushMin sts ks left) on, newL sts dist F pots, by rw [pushOn_length]; exact hol, rfl, by omega, by omega, by omega, by rw [show amt - (left - pushMin sts ks left) = amt - left + pushMin sts ks left by omega]; exact hfl2, hop2, hpi2, H.reidx [0, 4, 1, 2, 3] (by decide) rfl⟩
 have hl00 : left = 0 := by simp at hc10; omega
 rw [hl00, Int.sub_zero] at hfl
 refine WP.exit <| XB.hit <| Y.q ?_
 have Hf := H
 replace H := H.reidx (L' := [⟨g12, 127, [I m, .slice A l.length cap, .slice (some ⟨g51, 0, none⟩) l.length l.length]⟩, ⟨g51, 3, on.map I⟩, ⟨g55, 3, pots.map I⟩, ⟨g4, 101, [I m, .slice A l.length cap]⟩]) [0, 1, 2, 4] (by decide) rfl
 refine WP.rheldC [9, 117, 118, 119, 120, 121, 122, 123, 124, 125] (fun u w' => u 9 = I 0 ∧ SH w0 [] w' [⟨g8, 104, [I amt, I (costOf l on), .slice (some ⟨g51, 0, none⟩) l.length l.length, .slice (some ⟨g55, 0, none⟩) m m]⟩, ⟨g51, 3, on.map I⟩, ⟨g55, 3, pots.map I⟩]) mixed H ?_ ?_
 ·clear H; intro w hbw27 H
  refine Y.t 0 H rfl rfl (fun w H => Y.m rfl) <| Y.t 1 H rfl rfl (fun w H => Y.o H 3 rfl rfl) <| Y.t 2 H rfl rfl (fun w H => Y.f rfl rfl) <| Y.t 3 H rfl rfl (fun w H => Y.l H 0 rfl rfl rfl) <| Y.t 5 H rfl rfl (fun w H => Y.f rfl rfl) <| Y.t 6 H rfl rfl (fun w H => Y.l H 0 rfl rfl rfl) <| Y.t 7 H rfl rfl (fun w H => Ev.mvS rfl) <| Y.A1 4 rfl rfl ?_
  try replace Hf := Hf.toBelow hbw27
  have hpr := flowPrice m A (some ⟨g51, 0, none⟩) l on cap l.length w hN hfl.v (hz.sh H) (onesOwn H 1 rfl)
  rw [hol] at hpr
  refine OPS.call (d := some 121) rfl rfl rfl (EvC.func (fun_run rfl)) hpr ?_
  rintro _ w ⟨rfl, hb⟩
  refine ⟨_, rfl, ?_⟩
  replace H := H.toBelow hb; replace Hf := Hf.toBelow hb; clear hb
  refine Y.z <| ⟨(H), ?_⟩
  refine Y.t 8 H rfl rfl (fun w H => Ev.build (bld_104_0_1_2_3 rfl rfl rfl rfl)) <| Y.A1 9 rfl rfl <| OPS.store (vs := [I amt, I (costOf l on), .slice (some ⟨g51, 0, none⟩) l.length l.length, .slice (some ⟨g55, 0, none⟩) m m]) 3 _ rfl rfl rfl (size_run rfl) rfl (cA rfl) rfl rfl Hf rfl (by simp) ?_
  clear H Hf; intro w Hf
  simp only [List.set_cons_zero, List.set_cons_succ, putL] at Hf
  have H := Hf.reidx (L' := [⟨g12, 127, [I m, .slice A l.length cap, .slice (some ⟨g51, 0, none⟩) l.length l.length]⟩, ⟨g51, 3, on.map I⟩, ⟨g55, 3, pots.map I⟩, ⟨g4, 101, [I m, .slice A l.length cap]⟩]) [0, 1, 2, 4] (by decide) rfl
  refine Y.z <| ⟨(H), ?_⟩
  refine Y.t 10 H rfl rfl (fun w H => Ev.asI rfl) <| Y.dn ?_
  exact ⟨Y.ag, rfl, Hf.reidx [3, 1, 2] (by decide) rfl⟩
 clear H
 rintro u w ⟨h9, H⟩
 refine WP.know (t := 9) h9 ?_
 refine WP.ret ⟨[_, _], ⟨(by exact resCellA 0 H rfl (agg_run rfl) (size_run rfl) (by rfl) rfl), rfl, trivial⟩, ?_⟩
 refine ⟨most, ⟨rfl, hM1, hM2⟩, .inr ⟨hce, m, s, d, g51, g55, on, pots, hE, ⟨hfl, hop, hpl, hpi.zero, fun v hv => ⟨(hpi.bd v hv).1, hpi.le hv⟩⟩, ?_, H.drop (List.sublist_cons_self _ _)⟩⟩
 rw [hol, hpl]; rfl
end Go.Proofs.YthobaaefdehoiaaGreat.Flo

/-
 Plain: the network of all transports; a flow and what proves its cost.
-/
set_option linter.all false
namespace Go.Proofs.YthobaaefdehoiaaGreat.Flo
open Go Go.W
def rowArcs (f : Int) : Int → List Int → List Arc
 | _, [] => []
 | g, x :: r => if 0 ≤ x then ⟨f, g, 65536, x⟩ :: rowArcs f (g + 1) r else rowArcs f (g + 1) r
def colArcs (g : Int) : Int → List Int → List (List Int) → List Arc
 | i, c :: C, r :: tm => ⟨0, i, c, 0⟩ :: (rowArcs i g r ++ colArcs g (i + 1) C tm)
 | _, _, _ => []
def brArcs (last : Int) : Int → List Int → List Arc
 | _, [] => []
 | g, d :: D => ⟨g, last, d, 0⟩ :: brArcs last (g + 1) D
def dn : List Int → (Nat → Int) → Int
 | [], _ => 0
 | d :: D, v => d * v 0 + dn D fun k => v (k + 1)
def tmAt (tm : List (List Int)) (j k : Nat) : Option Int := (tm[j]?).bind (·[k]?)
def Feas (w : Int) (tm : List (List Int)) (u v : Nat → Int) : Prop := ∀ j k x, tmAt tm j k = some x → 0 ≤ x → v k ≤ u j + w * x
def val (w : Int) (p : Int → Int) (a : Arc) : Int := w * a.cost + p a.f - p a.t
theorem VFlow.cons {a : Arc} {l : List Arc} {on : List Int} (h : VFlow (a :: l) on) : ∃ x r, on = x :: r ∧ 0 ≤ x ∧ x ≤ a.cap ∧ VFlow l r := by
 match on, h.len with
 | x :: r, hl =>
  have h0 := h.bd 0 (by simp) (by simp)
  exact ⟨x, r, rfl, h0.1, h0.2, ⟨by simpa using hl, fun i hi hi2 => h.bd (i + 1) (by simpa using hi) (by simpa using hi2)⟩⟩
theorem VFlow.app {b : List Arc} : ∀ {a : List Arc} {on : List Int}, VFlow (a ++ b) on → ∃ x y, on = x ++ y ∧ VFlow a x ∧ VFlow b y
 | [], on, h => ⟨[], on, rfl, ⟨rfl, fun i hi => by simp at hi⟩, h⟩
 | c :: a, on, h => by
  obtain ⟨z, r, rfl, h1, h2, h3⟩ := VFlow.cons (a := c) (l := a ++ b) h
  obtain ⟨x, y, rfl, h4, h5⟩ := VFlow.app h3
  refine ⟨z :: x, y, rfl, ⟨by simp [h4.len], fun i hi hi2 => ?_⟩, h5⟩
  cases i with
  | zero => exact ⟨h1, h2⟩
  | succ i => exact h4.bd i (by simpa using hi) (by simpa using hi2)
theorem lin_app (c : Arc → Int) (b : List Arc) (y : List Int) : ∀ (a : List Arc) (x : List Int), x.length = a.length → lin c (a ++ b) (x ++ y) = lin c a x + lin c b y
 | [], [], _ => by simp [lin]
 | a :: l, z :: x, h => by
  simp only [List.cons_append, lin]
  rw [lin_app c b y l x (by simpa using h)]; omega
 | [], _ :: _, h => by simp at h
 | _ :: _, [], h => by simp at h
theorem netOut_lin (p : Int → Int) : ∀ (l : List Arc) (on : List Int), netOut p l on = lin (fun a => p a.f - p a.t) l on
 | [], _ => rfl
 | _ :: _, [] => rfl
 | a :: l, x :: on => by simp only [netOut, lin]; rw [netOut_lin p l on]
theorem lin_val (w : Int) (p : Int → Int) : ∀ (l : List Arc) (on : List Int), lin (val w p) l on = w * costOf l on + netOut p l on
 | [], _ => by simp [lin, costOf, netOut]
 | _ :: _, [] => by simp [lin, costOf, netOut]
 | a :: l, x :: on => by
  simp only [lin, costOf, netOut, lin_val w p l on, val]
  rw [show w * a.cost + p a.f - p a.t = w * a.cost + (p a.f - p a.t) by omega]
  rw [Int.mul_add x, Int.mul_add w, show x * (w * a.cost) = w * (x * a.cost) by rw [← Int.mul_assoc, Int.mul_comm x w, Int.mul_assoc]]
  omega
theorem dn_congr : ∀ {D : List Int} {u v : Nat → Int}, (∀ k, k < D.length → u k = v k) → dn D u = dn D v
 | [], _, _, _ => rfl
 | d :: D, u, v, h => by
  simp only [dn]
  rw [h 0 (by simp), dn_congr (D := D) (u := fun k => u (k + 1)) (v := fun k => v (k + 1)) fun k hk => h (k + 1) (by simpa using hk)]
theorem dn_le : ∀ {D : List Int} {u v : Nat → Int}, (∀ d ∈ D, 0 ≤ d) → (∀ k, k < D.length → u k ≤ v k) → dn D u ≤ dn D v
 | [], _, _, _, _ => Int.le_refl _
 | d :: D, u, v, hd, h => by
  simp only [dn]
  have h1 : d * u 0 ≤ d * v 0 := Int.mul_le_mul_of_nonneg_left (h 0 (by simp)) (hd d (by simp))
  have h2 := dn_le (D := D) (u := fun k => u (k + 1)) (v := fun k => v (k + 1)) (fun x hx => hd x (by simp [hx])) fun k hk => h (k + 1) (by simpa using hk)
  omega
theorem dn_sub : ∀ (D : List Int) (v : Nat → Int) (c : Int), dn D (fun k => v k - c) = dn D v - D.sum * c
 | [], _, _ => by simp [dn]
 | d :: D, v, c => by
  simp only [dn, dn_sub D (fun k => v (k + 1)) c, List.sum_cons, Int.mul_sub, Int.add_mul]
  omega
section
variable {w : Int} {p : Int → Int}
theorem lin_row : ∀ (r : List Int) (f g : Int) (on : List Int), VFlow (rowArcs f g r) on → (∀ (k : Nat) x, r[k]? = some x → 0 ≤ x → p (g + k) ≤ p f + w * x) → 0 ≤ lin (val w p) (rowArcs f g r) on
 | [], _, _, on, h, _ => by simp [rowArcs, lin]
 | x :: r, f, g, on, h, hd => by
  have hs : ∀ (k : Nat) y, r[k]? = some y → 0 ≤ y → p (g + 1 + k) ≤ p f + w * y := fun k y hk hy => by
   have := hd (k + 1) y (by simpa using hk) hy
   rw [show g + 1 + (k : Int) = g + ((k + 1 : Nat) : Int) by omega]; exact this
  unfold rowArcs at h ⊢
  split
  ·rename_i hx
   rw [if_pos hx] at h
   obtain ⟨z, q, rfl, h1, h2, h3⟩ := h.cons
   have h0 := hd 0 x rfl hx
   rw [show g + ((0 : Nat) : Int) = g by omega] at h0
   have := Int.mul_nonneg h1 (show 0 ≤ val w p ⟨f, g, 65536, x⟩ by simp only [val]; omega)
   have := lin_row r f (g + 1) q h3 hs
   simp only [lin]; omega
  ·rename_i hx
   rw [if_neg hx] at h
   exact lin_row r f (g + 1) on h hs
theorem lin_col (hp0 : p 0 = 0) (g : Int) : ∀ (C : List Int) (tm : List (List Int)) (i : Int) (on : List Int), C.length = tm.length → VFlow (colArcs g i C tm) on → (∀ j : Nat, j < C.length → 0 ≤ p (i + j)) →
  (∀ (j k : Nat) x, tmAt tm j k = some x → 0 ≤ x → p (g + k) ≤ p (i + j) + w * x) → -dn C (fun j => p (i + j)) ≤ lin (val w p) (colArcs g i C tm) on
 | [], _, _, _, _, _, _, _ => by simp [colArcs, lin, dn]
 | _ :: _, [], _, _, hl, _, _, _ => by simp at hl
 | c :: C, r :: tm, i, on, hl, h, hu, hd => by
  unfold colArcs at h ⊢
  obtain ⟨z, q, rfl, h1, h2, h3⟩ := h.cons
  obtain ⟨x, y, rfl, h4, h5⟩ := h3.app
  have hu0 := hu 0 (by simp)
  rw [show i + ((0 : Nat) : Int) = i by omega] at hu0
  have a1 := lin_row (w := w) r i g x h4 (fun k t hk ht => by
   have := hd 0 k t (by simp [tmAt, hk]) ht
   rw [show i + ((0 : Nat) : Int) = i by omega] at this; exact this)
  have a2 := lin_col hp0 g C tm (i + 1) y (by simpa using hl) h5 (fun j hj => by
   have := hu (j + 1) (by simpa using hj)
   rw [show i + 1 + (j : Int) = i + ((j + 1 : Nat) : Int) by omega]; exact this) (fun j k t hk ht => by
   have := hd (j + 1) k t (by simpa [tmAt] using hk) ht
   rw [show i + 1 + (j : Int) = i + ((j + 1 : Nat) : Int) by omega]; exact this)
  have e1 : dn C (fun k => p (i + ((k + 1 : Nat) : Int))) = dn C (fun j => p (i + 1 + j)) := dn_congr fun k _ => by rw [show i + 1 + (k : Int) = i + ((k + 1 : Nat) : Int) by omega]
  have a3 : z * p i ≤ c * p i := Int.mul_le_mul_of_nonneg_right h2 hu0
  simp only [lin, dn]
  rw [lin_app _ _ _ _ _ h4.len, e1, show i + ((0 : Nat) : Int) = i by omega]
  have e2 : z * val w p ⟨0, i, c, 0⟩ = -(z * p i) := by simp only [val, hp0]; rw [show w * 0 + 0 - p i = -(p i) by omega, Int.mul_neg]
  rw [e2]; omega
theorem lin_br (last : Int) : ∀ (D : List Int) (g : Int) (on : List Int), VFlow (brArcs last g D) on → (∀ k : Nat, k < D.length → p (g + k) ≤ p last) → dn D (fun k => p (g + k) - p last) ≤ lin (val w p) (brArcs last g D) on
 | [], _, _, _, _ => by simp [brArcs, lin, dn]
 | d :: D, g, on, h, hv => by
  unfold brArcs at h ⊢
  obtain ⟨z, q, rfl, h1, h2, h3⟩ := h.cons
  have hv0 := hv 0 (by simp)
  rw [show g + ((0 : Nat) : Int) = g by omega] at hv0
  have a2 := lin_br last D (g + 1) q h3 (fun k hk => by
   have := hv (k + 1) (by simpa using hk)
   rw [show g + 1 + (k : Int) = g + ((k + 1 : Nat) : Int) by omega]; exact this)
  have e1 : dn D (fun k => p (g + ((k + 1 : Nat) : Int)) - p last) = dn D (fun k => p (g + 1 + k) - p last) := dn_congr fun k _ => by rw [show g + 1 + (k : Int) = g + ((k + 1 : Nat) : Int) by omega]
  have h2 : z ≤ d := h2
  have a3 : z * (p last - p g) ≤ d * (p last - p g) := Int.mul_le_mul_of_nonneg_right h2 (by omega)
  simp only [lin, dn]
  rw [e1, show g + ((0 : Nat) : Int) = g by omega]
  have e2 : z * val w p ⟨g, last, d, 0⟩ = -(z * (p last - p g)) := by simp only [val]; rw [show w * 0 + p g - p last = -(p last - p g) by omega, Int.mul_neg]
  have e3 : d * (p g - p last) = -(d * (p last - p g)) := by rw [← Int.mul_neg]; congr 1; omega
  rw [e2, e3]; omega
end
def Two (l a b : List Arc) : Prop := l = a ++ b ∨ l = b ++ a
theorem Two.split {l a b : List Arc} {on : List Int} (h : Two l a b) (hv : VFlow l on) : ∃ x y, VFlow a x ∧ VFlow b y ∧ ∀ c, lin c l on = lin c a x + lin c b y := by
 rcases h with rfl | rfl
 ·obtain ⟨x, y, rfl, h1, h2⟩ := hv.app
  exact ⟨x, y, h1, h2, fun c => lin_app c b y a x h1.len⟩
 ·obtain ⟨x, y, rfl, h1, h2⟩ := hv.app
  exact ⟨y, x, h2, h1, fun c => by rw [lin_app c a y b x h1.len, Int.add_comm]⟩
structure Stand (n : Nat) (i0 g0 last : Int) (nc nb : Nat) : Prop where
 hi0 : 0 < i0
 hg0 : g0 = i0 + nc
 htop : g0 + nb ≤ n
 hl0 : 0 < last ∧ last < n
 hout : last < i0 ∨ g0 + nb ≤ last
def pot (i0 g0 last : Int) (V : Int) (u v : Nat → Int) : Int → Int := fun x => if x = 0 then 0 else if x = last then V else if x < g0 then u (x - i0).toNat else v (x - g0).toNat
section
variable {n : Nat} {i0 g0 last V : Int} {nc nb : Nat} {u v : Nat → Int}
theorem pot_0 : pot i0 g0 last V u v 0 = 0 := if_pos rfl
theorem pot_last (h : Stand n i0 g0 last nc nb) : pot i0 g0 last V u v last = V := by
 have := h.hl0
 unfold pot; rw [if_neg (by omega), if_pos rfl]
theorem pot_u (h : Stand n i0 g0 last nc nb) {j : Nat} (hj : j < nc) : pot i0 g0 last V u v (i0 + j) = u j := by
 have := h.hi0; have := h.hg0; have := h.hout
 unfold pot; rw [if_neg (by omega), if_neg (by omega), if_pos (by omega), show (i0 + (j : Int) - i0).toNat = j by omega]
theorem pot_v (h : Stand n i0 g0 last nc nb) {k : Nat} (hk : k < nb) : pot i0 g0 last V u v (g0 + k) = v k := by
 have := h.hi0; have := h.hg0; have := h.hout
 unfold pot; rw [if_neg (by omega), if_neg (by omega), if_neg (by omega), show (g0 + (k : Int) - g0).toNat = k by omega]
end
theorem bound_ex (v : Nat → Int) : ∀ n : Nat, ∃ V, ∀ k, k < n → v k ≤ V
 | 0 => ⟨0, fun k h => by omega⟩
 | n + 1 => by
  obtain ⟨V, hV⟩ := bound_ex v n
  refine ⟨if V < v n then v n else V, fun k hk => ?_⟩
  by_cases h : k = n
  ·subst h; split <;> omega
  ·have := hV k (by omega); split <;> omega
structure Tab (C D : List Int) (tm : List (List Int)) : Prop where
 rows : C.length = tm.length
 cols : ∀ j k x, tmAt tm j k = some x → j < C.length ∧ k < D.length
 dpos : ∀ d ∈ D, 0 < d
theorem weak_price {n : Nat} {i0 g0 last : Int} {C D : List Int} {tm : List (List Int)} {l : List Arc} {on : List Int} {w : Int} {u v : Nat → Int} (hP : Stand n i0 g0 last C.length D.length) (hT : Tab C D tm) (h2 : Two l (colArcs g0 i0 C tm) (brArcs last g0 D)) (hn : NodesOk n l)
  (hf : IsFlow n l 0 last on D.sum) (hu : ∀ j, 0 ≤ u j) (hF : Feas w tm u v) : dn D v ≤ dn C u + w * costOf l on := by
 obtain ⟨V, hV⟩ := bound_ex v D.length
 obtain ⟨x, y, hx, hy, hl⟩ := h2.split hf.v
 have hl0 := hP.hl0
 have h1 := hl (val w (pot i0 g0 last V u v))
 rw [lin_val, netOut_ends hf hn ⟨by omega, by omega⟩ ⟨by omega, by omega⟩ (by omega), pot_0, pot_last hP] at h1
 have a1 := lin_col (w := w) (p := pot i0 g0 last V u v) pot_0 g0 C tm i0 x hT.rows hx (fun j hj => by rw [pot_u hP hj]; exact hu j) (fun j k t hk ht => by
  obtain ⟨q1, q2⟩ := hT.cols j k t hk
  rw [pot_u hP q1, pot_v hP q2]; exact hF j k t hk ht)
 have a2 := lin_br (w := w) (p := pot i0 g0 last V u v) last D g0 y hy (fun k hk => by rw [pot_v hP hk, pot_last hP]; exact hV k hk)
 rw [dn_congr (v := u) (fun k hk => pot_u hP hk)] at a1
 rw [dn_congr (v := fun k => v k - V) (fun k hk => by rw [pot_v hP hk, pot_last hP]), dn_sub] at a2
 have e : D.sum * (0 - V) = -(D.sum * V) := by rw [← Int.mul_neg]; congr 1; omega
 rw [e] at h1
 omega
end Go.Proofs.YthobaaefdehoiaaGreat.Flo

/-
 Plain: transports: strong duality, cuts, other names of the nodes.
-/
set_option linter.all false
namespace Go.Proofs.YthobaaefdehoiaaGreat.Flo
open Go Go.W
theorem rc_val (p : Int → Int) (a : Arc) : rc p a = val 1 p a := by simp [rc, val]
theorem OptPot.cons {p : Int → Int} {a : Arc} {l : List Arc} {x : Int} {on : List Int} (h : OptPot p (a :: l) (x :: on)) : (x < a.cap → 0 ≤ val 1 p a) ∧ (0 < x → val 1 p a ≤ 0) ∧ OptPot p l on := by
 have h0 := h 0 (by simp) (by simp)
 rw [← rc_val]
 exact ⟨h0.1, h0.2, fun i hi hi2 => h (i + 1) (by simpa using hi) (by simpa using hi2)⟩
theorem OptPot.app {p : Int → Int} {b : List Arc} {y : List Int} : ∀ {a : List Arc} {x : List Int}, x.length = a.length → OptPot p (a ++ b) (x ++ y) → OptPot p a x ∧ OptPot p b y
 | [], [], _, h => ⟨fun i hi => by simp at hi, h⟩
 | c :: a, z :: x, hl, h => by
  obtain ⟨h1, h2, h3⟩ := OptPot.cons (a := c) (l := a ++ b) (x := z) (on := x ++ y) h
  obtain ⟨h4, h5⟩ := OptPot.app (by simpa using hl) h3
  refine ⟨fun i hi hi2 => ?_, h5⟩
  cases i with
  | zero => rw [← rc_val] at h1 h2; exact ⟨h1, h2⟩
  | succ i => exact h4 i (by simpa using hi) (by simpa using hi2)
 | [], _ :: _, h, _ => by simp at h
 | _ :: _, [], h, _ => by simp at h
theorem Two.splitO {l a b : List Arc} {on : List Int} {p : Int → Int} (h : Two l a b) (hv : VFlow l on) (ho : OptPot p l on) : ∃ x y, VFlow a x ∧ VFlow b y ∧ OptPot p a x ∧ OptPot p b y ∧ ∀ c, lin c l on = lin c a x + lin c b y := by
 rcases h with rfl | rfl
 ·obtain ⟨x, y, rfl, h1, h2⟩ := hv.app
  obtain ⟨o1, o2⟩ := OptPot.app h1.len ho
  exact ⟨x, y, h1, h2, o1, o2, fun c => lin_app c b y a x h1.len⟩
 ·obtain ⟨x, y, rfl, h1, h2⟩ := hv.app
  obtain ⟨o1, o2⟩ := OptPot.app h1.len ho
  exact ⟨y, x, h2, h1, o2, o1, fun c => by rw [lin_app c a y b x h1.len, Int.add_comm]⟩
section
variable {p : Int → Int}
theorem opt_row : ∀ (r : List Int) (f g : Int) (on : List Int), VFlow (rowArcs f g r) on → OptPot p (rowArcs f g r) on → lin (val 1 p) (rowArcs f g r) on ≤ 0
 | [], f, g, on, h, _ => by simp [rowArcs, lin]
 | x :: r, f, g, on, h, ho => by
  unfold rowArcs at h ho ⊢
  split
  ·rename_i hx
   rw [if_pos hx] at h ho
   obtain ⟨z, q, rfl, h1, h2, h3⟩ := h.cons
   obtain ⟨o1, o2, o3⟩ := ho.cons
   have := opt_row r f (g + 1) q h3 o3
   have h4 : z * val 1 p ⟨f, g, 65536, x⟩ ≤ 0 := by
    rcases Int.lt_or_eq_of_le h1 with hz | hz
    ·exact Int.mul_nonpos_of_nonneg_of_nonpos h1 (o2 hz)
    ·rw [← hz]; simp
   simp only [lin]; omega
  ·rename_i hx
   rw [if_neg hx] at h ho
   exact opt_row r f (g + 1) on h ho
theorem opt_col (hp0 : p 0 = 0) (g : Int) : ∀ (C : List Int) (tm : List (List Int)) (i : Int) (on : List Int), C.length = tm.length → VFlow (colArcs g i C tm) on → OptPot p (colArcs g i C tm) on → lin (val 1 p) (colArcs g i C tm) on ≤ -dn C (fun j => p (i + j))
 | [], _, _, _, _, _, _ => by simp [colArcs, lin, dn]
 | _ :: _, [], _, _, hl, _, _ => by simp at hl
 | c :: C, r :: tm, i, on, hl, h, ho => by
  unfold colArcs at h ho ⊢
  obtain ⟨z, q, rfl, h1, h2, h3⟩ := h.cons
  obtain ⟨o1, o2, o3⟩ := ho.cons
  obtain ⟨x, y, rfl, h4, h5⟩ := h3.app
  obtain ⟨o4, o5⟩ := OptPot.app h4.len o3
  have a1 := opt_row r i g x h4 o4
  have a2 := opt_col hp0 g C tm (i + 1) y (by simpa using hl) h5 o5
  have e1 : dn C (fun k => p (i + ((k + 1 : Nat) : Int))) = dn C (fun j => p (i + 1 + j)) := dn_congr fun k _ => by rw [show i + 1 + (k : Int) = i + ((k + 1 : Nat) : Int) by omega]
  have h2 : z ≤ c := h2
  have o1 : z < c → 0 ≤ val 1 p ⟨0, i, c, 0⟩ := o1
  have ev : val 1 p ⟨0, i, c, 0⟩ = -(p i) := by simp only [val, hp0]; omega
  rw [ev] at o1
  have a3 : c * p i ≤ z * p i := by
   rcases Int.lt_or_eq_of_le h2 with hz | hz
   ·have := o1 hz
    have h6 : 0 ≤ (c - z) * -(p i) := Int.mul_nonneg (by omega) (by omega)
    rw [Int.mul_neg, Int.sub_mul] at h6; omega
   ·rw [hz]; omega
  simp only [lin, dn]
  rw [lin_app _ _ _ _ _ h4.len, e1, show i + ((0 : Nat) : Int) = i by omega, ev, Int.mul_neg]; omega
theorem opt_br (last : Int) : ∀ (D : List Int) (g : Int) (on : List Int), VFlow (brArcs last g D) on → OptPot p (brArcs last g D) on → lin (val 1 p) (brArcs last g D) on ≤ dn D (fun k => p (g + k) - p last)
 | [], _, _, _, _ => by simp [brArcs, lin, dn]
 | d :: D, g, on, h, ho => by
  unfold brArcs at h ho ⊢
  obtain ⟨z, q, rfl, h1, h2, h3⟩ := h.cons
  obtain ⟨o1, o2, o3⟩ := ho.cons
  have a2 := opt_br last D (g + 1) q h3 o3
  have e1 : dn D (fun k => p (g + ((k + 1 : Nat) : Int)) - p last) = dn D (fun k => p (g + 1 + k) - p last) := dn_congr fun k _ => by rw [show g + 1 + (k : Int) = g + ((k + 1 : Nat) : Int) by omega]
  have h2 : z ≤ d := h2
  have o1 : z < d → 0 ≤ val 1 p ⟨g, last, d, 0⟩ := o1
  have ev : val 1 p ⟨g, last, d, 0⟩ = p g - p last := by simp only [val]; omega
  rw [ev] at o1
  have a3 : z * (p g - p last) ≤ d * (p g - p last) := by
   rcases Int.lt_or_eq_of_le h2 with hz | hz
   ·exact Int.mul_le_mul_of_nonneg_right h2 (o1 hz)
   ·rw [hz]; exact Int.le_refl _
  simp only [lin, dn]
  rw [e1, show g + ((0 : Nat) : Int) = g by omega, ev]; omega
end
theorem strong_price {n : Nat} {i0 g0 last : Int} {C D : List Int} {tm : List (List Int)} {l : List Arc} {on : List Int} {p : Int → Int} (hP : Stand n i0 g0 last C.length D.length) (hT : Tab C D tm) (h2 : Two l (colArcs g0 i0 C tm) (brArcs last g0 D)) (hn : NodesOk n l)
  (hf : IsFlow n l 0 last on D.sum) (ho : OptPot p l on) (hp0 : p 0 = 0) : costOf l on ≤ dn D (fun k => p (g0 + k)) - dn C (fun j => p (i0 + j)) := by
 obtain ⟨x, y, hx, hy, o1, o2, hl⟩ := h2.splitO hf.v ho
 have hl0 := hP.hl0
 have h1 := hl (val 1 p)
 rw [lin_val, netOut_ends hf hn ⟨by omega, by omega⟩ ⟨by omega, by omega⟩ (by omega), hp0] at h1
 have a1 := opt_col hp0 g0 C tm i0 x hT.rows hx o1
 have a2 := opt_br last D g0 y hy o2
 rw [dn_sub] at a2
 have e : D.sum * (0 - p last) = -(D.sum * p last) := by rw [← Int.mul_neg]; congr 1; omega
 rw [e] at h1
 omega
theorem row_mem {f : Int} {a : Arc} : ∀ {r : List Int} {g : Int}, a ∈ rowArcs f g r → ∃ k : Nat, r[k]? = some a.cost ∧ 0 ≤ a.cost ∧ a.f = f ∧ a.t = g + k ∧ a.cap = 65536
 | [], _, h => by simp [rowArcs] at h
 | x :: r, g, h => by
  have hr : a ∈ rowArcs f (g + 1) r → ∃ k : Nat, (x :: r)[k]? = some a.cost ∧ 0 ≤ a.cost ∧ a.f = f ∧ a.t = g + k ∧ a.cap = 65536 := fun h => by
   obtain ⟨k, h1, h2, h3, h4, h5⟩ := row_mem h
   exact ⟨k + 1, by simpa using h1, h2, h3, by rw [h4]; omega, h5⟩
  unfold rowArcs at h
  split at h
  ·rename_i hx
   rcases List.mem_cons.1 h with rfl | h
   ·exact ⟨0, rfl, hx, rfl, by simp, rfl⟩
   ·exact hr h
  ·exact hr h
theorem mem_row {f x : Int} : ∀ {r : List Int} {k : Nat} {g : Int}, r[k]? = some x → 0 ≤ x → (⟨f, g + k, 65536, x⟩ : Arc) ∈ rowArcs f g r
 | [], _, _, h, _ => by simp at h
 | y :: r, 0, g, h, hx => by
  simp at h; subst h
  unfold rowArcs; rw [if_pos hx]; simp
 | y :: r, k + 1, g, h, hx => by
  have := mem_row (f := f) (r := r) (k := k) (g := g + 1) (by simpa using h) hx
  rw [show g + 1 + (k : Int) = g + ((k + 1 : Nat) : Int) by omega] at this
  unfold rowArcs; split
  ·exact List.mem_cons_of_mem _ this
  ·exact this
theorem col_mem {g : Int} {a : Arc} : ∀ {C : List Int} {tm : List (List Int)} {i : Int}, a ∈ colArcs g i C tm →
  (∃ j : Nat, C[j]? = some a.cap ∧ a.f = 0 ∧ a.t = i + j ∧ a.cost = 0) ∨ (∃ j k : Nat, tmAt tm j k = some a.cost ∧ 0 ≤ a.cost ∧ a.f = i + j ∧ a.t = g + k ∧ a.cap = 65536)
 | [], _, _, h => by simp [colArcs] at h
 | _ :: _, [], _, h => by simp [colArcs] at h
 | c :: C, r :: tm, i, h => by
  unfold colArcs at h
  rcases List.mem_cons.1 h with rfl | h
  ·exact .inl ⟨0, rfl, rfl, by simp, rfl⟩
  ·rcases List.mem_append.1 h with h | h
   ·obtain ⟨k, h1, h2, h3, h4, h5⟩ := row_mem h
    exact .inr ⟨0, k, by simpa [tmAt] using h1, h2, by rw [h3]; simp, h4, h5⟩
   ·rcases col_mem h with ⟨j, h1, h2, h3, h4⟩ | ⟨j, k, h1, h2, h3, h4, h5⟩
    ·exact .inl ⟨j + 1, by simpa using h1, h2, by rw [h3]; omega, h4⟩
    ·exact .inr ⟨j + 1, k, by simpa [tmAt] using h1, h2, by rw [h3]; omega, h4, h5⟩
theorem mem_col {g x : Int} : ∀ {C : List Int} {tm : List (List Int)} {i : Int} {j k : Nat}, C.length = tm.length → tmAt tm j k = some x → 0 ≤ x → (⟨i + j, g + k, 65536, x⟩ : Arc) ∈ colArcs g i C tm
 | [], [], _, _, _, _, h, _ => by simp [tmAt] at h
 | [], _ :: _, _, _, _, hl, _, _ => by simp at hl
 | _ :: _, [], _, _, _, hl, _, _ => by simp at hl
 | c :: C, r :: tm, i, 0, k, _, h, hx => by
  unfold colArcs
  have := mem_row (f := i) (g := g) (r := r) (k := k) (by simpa [tmAt] using h) hx
  rw [show i + ((0 : Nat) : Int) = i by omega]
  exact List.mem_cons_of_mem _ (List.mem_append_left _ this)
 | c :: C, r :: tm, i, j + 1, k, hl, h, hx => by
  unfold colArcs
  have := mem_col (g := g) (C := C) (tm := tm) (i := i + 1) (j := j) (k := k) (by simpa using hl) (by simpa [tmAt] using h) hx
  rw [show i + 1 + (j : Int) = i + ((j + 1 : Nat) : Int) by omega] at this
  exact List.mem_cons_of_mem _ (List.mem_append_right _ this)
theorem br_mem {last : Int} {a : Arc} : ∀ {D : List Int} {g : Int}, a ∈ brArcs last g D → ∃ k : Nat, D[k]? = some a.cap ∧ a.f = g + k ∧ a.t = last ∧ a.cost = 0
 | [], _, h => by simp [brArcs] at h
 | d :: D, g, h => by
  unfold brArcs at h
  rcases List.mem_cons.1 h with rfl | h
  ·exact ⟨0, rfl, by simp, rfl, rfl⟩
  ·obtain ⟨k, h1, h2, h3, h4⟩ := br_mem h
   exact ⟨k + 1, by simpa using h1, by rw [h2]; omega, h3, h4⟩
theorem Two.mem {l a b : List Arc} (h : Two l a b) {x : Arc} : x ∈ l ↔ x ∈ a ∨ x ∈ b := by
 rcases h with rfl | rfl
 ·exact List.mem_append
 ·rw [List.mem_append]; exact Or.comm
theorem arc_kind {i0 g0 last : Int} {C D : List Int} {tm : List (List Int)} {l : List Arc} (h2 : Two l (colArcs g0 i0 C tm) (brArcs last g0 D)) {a : Arc} (ha : a ∈ l) :
  (∃ j : Nat, C[j]? = some a.cap ∧ a.f = 0 ∧ a.t = i0 + j ∧ a.cost = 0) ∨ (∃ j k : Nat, tmAt tm j k = some a.cost ∧ 0 ≤ a.cost ∧ a.f = i0 + j ∧ a.t = g0 + k ∧ a.cap = 65536) ∨ (∃ k : Nat, D[k]? = some a.cap ∧ a.f = g0 + k ∧ a.t = last ∧ a.cost = 0) := by
 rcases h2.mem.1 ha with h | h
 ·rcases col_mem h with h | h
  ·exact .inl h
  ·exact .inr (.inl h)
 ·exact .inr (.inr (br_mem h))
theorem getl {α : Type} {l : List α} {j : Nat} {x : α} (h : l[j]? = some x) : j < l.length := (List.getElem?_eq_some_iff.1 h).1
theorem net_nodes {n : Nat} {i0 g0 last : Int} {C D : List Int} {tm : List (List Int)} {l : List Arc} (hP : Stand n i0 g0 last C.length D.length) (hT : Tab C D tm) (h2 : Two l (colArcs g0 i0 C tm) (brArcs last g0 D)) : NodesOk n l := fun a ha => by
 have := hP.hi0; have := hP.hg0; have := hP.htop; have := hP.hl0
 rcases arc_kind h2 ha with ⟨j, h1, h3, h4, _⟩ | ⟨j, k, h1, _, h3, h4, _⟩ | ⟨k, h1, h3, h4, _⟩
 ·have := getl h1; omega
 ·obtain ⟨q1, q2⟩ := hT.cols j k _ h1; omega
 ·have := getl h1; omega
theorem netOut_nn (q : Int → Int) : ∀ (l : List Arc) (on : List Int), (∀ a ∈ l, 0 ≤ q a.f - q a.t) → VFlow l on → 0 ≤ netOut q l on
 | [], _, _, _ => by simp [netOut]
 | a :: l, on, hq, hv => by
  obtain ⟨x, r, rfl, h3, h4, h5⟩ := hv.cons
  have hx := Int.mul_nonneg h3 (hq a (by simp))
  have := netOut_nn q l r (fun b hb => hq b (List.mem_cons_of_mem _ hb)) h5
  simp only [netOut]; omega
theorem single_le (q : Int → Int) : ∀ (l : List Arc) (on : List Int), (∀ a ∈ l, 0 ≤ q a.f - q a.t) → VFlow l on → ∀ i (h : i < l.length) (h2 : i < on.length), on[i] * (q l[i].f - q l[i].t) ≤ netOut q l on
 | [], _, _, _, i, h, _ => by simp at h
 | a :: l, on, hq, hv, i, h, h2 => by
  obtain ⟨x, r, rfl, h3, h4, h5⟩ := hv.cons
  have hx := Int.mul_nonneg h3 (hq a (by simp))
  have hql : ∀ b ∈ l, 0 ≤ q b.f - q b.t := fun b hb => hq b (List.mem_cons_of_mem _ hb)
  have hnn := netOut_nn q l r hql h5
  cases i with
  | zero => simp only [netOut, List.getElem_cons_zero]; omega
  | succ i =>
   have := single_le q l r hql h5 i (by simpa using h) (by simpa using h2)
   simp only [netOut, List.getElem_cons_succ]; omega
theorem opt_feas {n : Nat} {i0 g0 last : Int} {C D : List Int} {tm : List (List Int)} {l : List Arc} {on : List Int} {p : Int → Int} (hP : Stand n i0 g0 last C.length D.length) (hT : Tab C D tm) (h2 : Two l (colArcs g0 i0 C tm) (brArcs last g0 D)) (hn : NodesOk n l)
  (hf : IsFlow n l 0 last on D.sum) (hD : D.sum < 65536) (ho : OptPot p l on) {j k : Nat} {x : Int} (hx : tmAt tm j k = some x) (hx0 : 0 ≤ x) : p (g0 + k) ≤ p (i0 + j) + x := by
 have b1 := hP.hi0; have b2 := hP.hg0; have b3 := hP.htop; have b4 := hP.hl0; have b5 := hP.hout
 obtain ⟨q1, q2⟩ := hT.cols j k _ hx
 have hm : (⟨i0 + j, g0 + k, 65536, x⟩ : Arc) ∈ l := h2.mem.2 (.inl (mem_col hT.rows hx hx0))
 obtain ⟨i, hi, he⟩ := List.mem_iff_getElem.1 hm
 have hi2 : i < on.length := by rw [hf.v.len]; exact hi
 have hS := hf.set hn ⟨by omega, by omega⟩ (S := fun y => y == 0 || (decide (i0 ≤ y) && decide (y < g0))) (by simp) (by simp; omega)
 have h3 := single_le (indB fun y => y == 0 || (decide (i0 ≤ y) && decide (y < g0))) l on (fun a ha => by
  rcases arc_kind h2 ha with ⟨j, h1, h3, h4, _⟩ | ⟨j, k, h1, _, h3, h4, _⟩ | ⟨k, h1, h3, h4, _⟩
  ·have := getl h1
   rw [h3, h4]; simp [indB, show i0 ≤ i0 + (j : Int) by omega, show i0 + (j : Int) < g0 by omega]
  ·obtain ⟨r1, r2⟩ := hT.cols j k _ h1
   rw [h3, h4]; simp [indB, show i0 ≤ i0 + (j : Int) by omega, show i0 + (j : Int) < g0 by omega]; split <;> omega
  ·have := getl h1
   rw [h3, h4]
   have e1 : indB (fun y => y == 0 || (decide (i0 ≤ y) && decide (y < g0))) (g0 + k) = 0 := by simp [indB]; omega
   have e2 : indB (fun y => y == 0 || (decide (i0 ≤ y) && decide (y < g0))) last = 0 := by simp [indB]; omega
   rw [e1, e2]; omega) hf.v i hi hi2
 rw [hS, he] at h3
 have e1 : indB (fun y => y == 0 || (decide (i0 ≤ y) && decide (y < g0))) (i0 + j) = 1 := by simp [indB]; omega
 have e2 : indB (fun y => y == 0 || (decide (i0 ≤ y) && decide (y < g0))) (g0 + k) = 0 := by simp [indB]; omega
 simp only [e1, e2] at h3
 have h4 := (ho i hi hi2).1 (by rw [he]; simp only; omega)
 rw [he, rc] at h4
 simp only at h4
 omega
end Go.Proofs.YthobaaefdehoiaaGreat.Flo

/-
 Plain: transports: what can be brought at all; other names of the nodes.
-/
set_option linter.all false
namespace Go.Proofs.YthobaaefdehoiaaGreat.Flo
open Go Go.W
def Hall (C D : List Int) (tm : List (List Int)) : Prop := ∀ u v : Nat → Int, (∀ j, 0 ≤ u j) → Feas 0 tm u v → dn D v ≤ dn C u
theorem cutCap_app (S : Int → Bool) (b : List Arc) : ∀ a : List Arc, cutCap S (a ++ b) = cutCap S a + cutCap S b
 | [] => by simp [cutCap]
 | c :: a => by simp only [List.cons_append, cutCap, cutCap_app S b a]; omega
theorem Two.cut {l a b : List Arc} (h : Two l a b) (S : Int → Bool) : cutCap S l = cutCap S a + cutCap S b := by
 rcases h with rfl | rfl
 ·exact cutCap_app S b a
 ·rw [cutCap_app]; omega
theorem cut_mem (S : Int → Bool) : ∀ (l : List Arc), (∀ a ∈ l, 0 ≤ a.cap) → ∀ a ∈ l, S a.f = true → S a.t = false → a.cap ≤ cutCap S l
 | [], _, a, h, _, _ => by cases h
 | b :: l, hc, a, h, h1, h2 => by
  have hl := cutCap_nonneg S l fun x hx => hc x (List.mem_cons_of_mem _ hx)
  simp only [cutCap]
  rcases List.mem_cons.1 h with rfl | h
  ·rw [if_pos (by simp [h1, h2])]; omega
  ·have := cut_mem S l (fun x hx => hc x (List.mem_cons_of_mem _ hx)) a h h1 h2
   have := hc b (by simp)
   split <;> omega
theorem cut_none (S : Int → Bool) : ∀ (l : List Arc), (∀ a ∈ l, S a.t = true) → cutCap S l = 0
 | [], _ => rfl
 | b :: l, h => by
  simp only [cutCap]
  rw [cut_none S l fun x hx => h x (List.mem_cons_of_mem _ hx), if_neg (by simp [h b (by simp)])]; omega
theorem cut_row_nn (S : Int → Bool) (f : Int) : ∀ (r : List Int) (g : Int), 0 ≤ cutCap S (rowArcs f g r) := fun r g => cutCap_nonneg S _ fun a ha => by
 obtain ⟨k, _, _, _, _, h⟩ := row_mem ha
 omega
theorem cut_col (S : Int → Bool) (h0 : S 0 = true) (g : Int) : ∀ (C : List Int) (tm : List (List Int)) (i : Int), C.length = tm.length → dn C (fun j => if S (i + j) = true then 0 else 1) ≤ cutCap S (colArcs g i C tm)
 | [], _, _, _ => by simp [colArcs, cutCap, dn]
 | _ :: _, [], _, hl => by simp at hl
 | c :: C, r :: tm, i, hl => by
  have ih := cut_col S h0 g C tm (i + 1) (by simpa using hl)
  have := cut_row_nn S i r g
  have e1 : dn C (fun k => if S (i + ((k + 1 : Nat) : Int)) = true then 0 else 1) = dn C (fun j => if S (i + 1 + j) = true then 0 else 1) := dn_congr fun k _ => by rw [show i + 1 + (k : Int) = i + ((k + 1 : Nat) : Int) by omega]
  unfold colArcs
  simp only [cutCap, cutCap_app, dn]
  rw [e1, show i + ((0 : Nat) : Int) = i by omega, h0]
  cases hS : S i <;> simp <;> omega
theorem cut_br (S : Int → Bool) (last : Int) (hl : S last = false) : ∀ (D : List Int) (g : Int), cutCap S (brArcs last g D) = dn D (fun k => if S (g + k) = true then 1 else 0)
 | [], _ => rfl
 | d :: D, g => by
  have e1 : dn D (fun k => if S (g + ((k + 1 : Nat) : Int)) = true then 1 else 0) = dn D (fun j => if S (g + 1 + j) = true then 1 else 0) := dn_congr fun k _ => by rw [show g + 1 + (k : Int) = g + ((k + 1 : Nat) : Int) by omega]
  unfold brArcs
  simp only [cutCap, dn]
  rw [cut_br S last hl D (g + 1), e1, show g + ((0 : Nat) : Int) = g by omega, hl]
  cases hS : S g <;> simp
theorem dn_one (D : List Int) : dn D (fun _ => 1) = D.sum := by
 induction D with
 | nil => rfl
 | cons d D ih => simp only [dn, ih, List.sum_cons]; omega
theorem dn_compl (D : List Int) (s : Nat → Bool) : dn D (fun k => if s k = true then 1 else 0) = D.sum - dn D (fun k => if s k = true then 0 else 1) := by
 induction D generalizing s with
 | nil => rfl
 | cons d D ih =>
  simp only [dn, List.sum_cons]
  rw [ih (fun k => s (k + 1))]
  cases s 0 <;> simp <;> omega
section
variable {n : Nat} {i0 g0 last : Int} {C D : List Int} {tm : List (List Int)} {l : List Arc} {most : Int}
theorem cut_last (hP : Stand n i0 g0 last C.length D.length) (hT : Tab C D tm) (h2 : Two l (colArcs g0 i0 C tm) (brArcs last g0 D)) : cutCap (fun y => y != last) l = D.sum := by
 have b1 := hP.hi0; have b2 := hP.hg0; have b3 := hP.htop; have b4 := hP.hl0; have b5 := hP.hout
 rw [h2.cut, cut_none, cut_br _ _ (by simp), dn_congr (v := fun _ => 1) (fun k hk => by rw [if_pos (by simp; omega)]), dn_one]
 ·omega
 ·intro a ha
  rcases col_mem ha with ⟨j, h1, h3, h4, _⟩ | ⟨j, k, h1, _, h3, h4, _⟩
  ·have := getl h1; rw [h4]; simp; omega
  ·obtain ⟨q1, q2⟩ := hT.cols j k _ h1; rw [h4]; simp; omega
theorem most_le (hP : Stand n i0 g0 last C.length D.length) (hT : Tab C D tm) (h2 : Two l (colArcs g0 i0 C tm) (brArcs last g0 D)) {on : List Int} {amt : Int} (hf : IsFlow n l 0 last on amt) : amt ≤ D.sum := by
 have b1 := hP.hl0
 rw [← cut_last hP hT h2]
 exact weak_dual hf (net_nodes hP hT h2) ⟨by omega, by omega⟩ (by simp; omega) (by simp)
theorem most_hall (hP : Stand n i0 g0 last C.length D.length) (hT : Tab C D tm) (hC : ∀ c ∈ C, 0 ≤ c) (hD : D.sum < 65536) (h2 : Two l (colArcs g0 i0 C tm) (brArcs last g0 D)) (hm : IsMax n l 0 last most) : D.sum ≤ most ↔ Hall C D tm := by
 have b1 := hP.hi0; have b2 := hP.hg0; have b3 := hP.htop; have b4 := hP.hl0; have b5 := hP.hout
 have hn := net_nodes hP hT h2
 constructor
 ·intro h u v hu hF
  obtain ⟨⟨on, hf⟩, _⟩ := hm
  have := most_le hP hT h2 hf
  obtain rfl : most = D.sum := by omega
  have := weak_price hP hT h2 hn hf hu hF
  simpa using this
 ·intro hH
  obtain ⟨_, S, h0, hl, hc⟩ := hm
  refine Int.not_lt.1 fun hlt => ?_
  have hcaps : ∀ a ∈ l, 0 ≤ a.cap := fun a ha => by
   rcases arc_kind h2 ha with ⟨j, h1, h3, h4, _⟩ | ⟨j, k, h1, _, h3, h4, h5⟩ | ⟨k, h1, h3, h4, _⟩
   ·exact hC _ (List.mem_of_getElem? h1)
   ·omega
   ·exact Int.le_of_lt (hT.dpos _ (List.mem_of_getElem? h1))
  have hF : Feas 0 tm (fun j => if S (i0 + j) = true then 0 else 1) (fun k => if S (g0 + k) = true then 0 else 1) := fun j k x hx hx0 => by
   have hm : (⟨i0 + j, g0 + k, 65536, x⟩ : Arc) ∈ l := h2.mem.2 (.inl (mem_col hT.rows hx hx0))
   show (if S (g0 + k) = true then (0 : Int) else 1) ≤ (if S (i0 + j) = true then 0 else 1) + 0 * x
   cases h1 : S (i0 + j) with
   | false => simp; split <;> omega
   | true =>
    cases h3 : S (g0 + k) with
    | true => simp
    | false =>
     have := cut_mem S l hcaps _ hm h1 h3
     simp only at this; omega
  have h3 := hH _ _ (fun j => by split <;> omega) hF
  have h4 := cut_col S h0 g0 C tm i0 hT.rows
  have h5 := cut_br S last hl D g0
  have h6 := dn_compl D (fun k => S (g0 + k))
  have h7 := h2.cut S
  omega
end
end Go.Proofs.YthobaaefdehoiaaGreat.Flo
