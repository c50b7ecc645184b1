/-
  Plain: rounds of relaxation on a road.
-/
import Derived.Test.YtgcokllbophkkaaGreatPtr
set_option linter.all false
set_option maxHeartbeats 4000000
namespace Go.Proofs.YtgcokllbophkkaaGreat
open Go Go.W
def dAt (d : List Int) (v : Nat) : Int := d.getD v 0
theorem jbI {d : List Int} {b v : Nat} {y : Int} (hb : b < d.length) : dAt (d.set b y) v = if b = v then y else dAt d v := by
  unfold dAt
  by_cases h : b = v
  · subst h; simp [hb]
  · simp [h, List.getElem?_set]
def jjk (n : Nat) (K : Nat → Bool) (D : Nat → Int) (v : Nat) : Nat := (List.range n).countP fun x => K x && decide (D x < D v)
theorem jkJ (n : Nat) (K : Nat → Bool) (D : Nat → Int) (v : Nat) : jjk n K D v ≤ n := by
  have h : jjk n K D v ≤ (List.range n).length := List.countP_le_length
  simpa using h
theorem jgL {α : Type} {p q : α → Bool} : ∀ {l : List α} {x : α}, x ∈ l → (∀ y ∈ l, p y = true → q y = true) → p x = false → q x = true → l.countP p < l.countP q
  | [], _, h, _, _, _ => by cases h
  | a :: l, x, h, hpq, hp, hq => by
    have hle : l.countP p ≤ l.countP q := by
      clear h
      have hpq' : ∀ y ∈ l, p y = true → q y = true := fun y hy => hpq y (List.mem_cons_of_mem _ hy)
      clear hpq
      induction l with
      | nil => simp
      | cons b l ih =>
        have h1 := ih fun y hy => hpq' y (List.mem_cons_of_mem _ hy)
        have h2 := hpq' b (List.mem_cons_self ..)
        rw [List.countP_cons, List.countP_cons]
        cases hb : p b with
        | true => rw [h2 hb]; simp; exact h1
        | false => simp; omega
    rw [List.countP_cons, List.countP_cons]
    rcases List.mem_cons.1 h with rfl | h
    · rw [hp, hq]; simp; omega
    · have h1 := jgL h (fun y hy => hpq y (List.mem_cons_of_mem _ hy)) hp hq
      have h2 := hpq a (List.mem_cons_self ..)
      cases ha : p a with
      | true => rw [h2 ha]; simp; exact h1
      | false => simp; omega
theorem jga {n : Nat} {K : Nat → Bool} {D : Nat → Int} {u v : Nat} (hu : u < n) (hk : K u = true) (h : D u < D v) : jjk n K D u < jjk n K D v := by
  refine jgL (x := u) (by simpa using hu) (fun y _ hy => ?_) (by simp) (by simp [hk, h])
  simp only [Bool.and_eq_true, decide_eq_true_eq] at hy ⊢
  exact ⟨hy.1, by omega⟩
structure BFR (l : List Edg) (n s : Nat) (K : Nat → Bool) (D : Nat → Int) (r : Nat) (Pr : Nat → Prop) (d ed : List Int) (c : Int) : Prop where
  dlen : d.length = n
  elen : ed.length = n
  unk : ∀ v, v < n → K v = false → dAt d v = 1099511627776
  lo : ∀ v, v < n → K v = true → D v ≤ dAt d v ∧ dAt d v ≤ 1099511627776
  rnd : ∀ v, v < n → K v = true → jjk n K D v ≤ r → dAt d v = D v
  pr : ∀ i u v w, jb3 l i u v w → Pr i → u < n → v < n → K u = true → jjk n K D u ≤ r → dAt d v ≤ D u + w
  ebd : ∀ v, v < n → 0 ≤ dAt ed v ∧ dAt ed v ≤ 1099511627776 + c
section
variable {l : List Edg} {n s : Nat} {K : Nat → Bool} {D : Nat → Int} {r : Nat} {Pr : Nat → Prop} {d ed : List Int} {c : Int}
theorem RD.bd (hR : RD l n s K D) (hok : jaL n l) : ∀ v, v < n → K v = true → D v ≤ 1000 * jjk n K D v := by
  have key : ∀ (m v : Nat), v < n → K v = true → jjk n K D v ≤ m → D v ≤ 1000 * jjk n K D v := by
    intro m
    induction m with
    | zero =>
      intro v hv hk hm
      by_cases hvs : v = s
      · subst hvs; rw [hR.src.2]; omega
      · obtain ⟨u, i, w, hu, hku, hE, hd⟩ := hR.par v hv hk hvs
        have := hE.pos hok
        have := jga (D := D) (v := v) hu hku (by omega)
        omega
    | succ m ih =>
      intro v hv hk hm
      by_cases hvs : v = s
      · subst hvs; rw [hR.src.2]; omega
      · obtain ⟨u, i, w, hu, hku, hE, hd⟩ := hR.par v hv hk hvs
        have := hE.pos hok
        have h1 := jga (D := D) (v := v) hu hku (by omega)
        have h2 := ih u hu hku (by omega)
        omega
  exact fun v hv hk => key _ v hv hk (Nat.le_refl _)
theorem RD.small (hR : RD l n s K D) (hok : jaL n l) {v : Nat} (hv : v < n) (hk : K v = true) : 0 ≤ D v ∧ D v ≤ 64000 := by
  have h1 := hR.bd hok v hv hk
  have h2 := jkJ n K D v
  have h3 := hok.n2
  exact ⟨hR.nn v hv hk, by omega⟩
theorem BFR.mono (h : BFR l n s K D r Pr d ed c) {Pr' : Nat → Prop} {c' : Int} (hp : ∀ i, i < l.length → Pr' i → Pr i) (hc : c ≤ c') : BFR l n s K D r Pr' d ed c' :=
  { h with pr := fun i u v w hE hp' => h.pr i u v w hE (hp i hE.1 hp'), ebd := fun v hv => ⟨(h.ebd v hv).1, by have := (h.ebd v hv).2; omega⟩ }
theorem BFR.init (hR : RD l n s K D) (hok : jaL n l) (hs : s < n) : BFR l n s K D 0 (fun _ => False) ((List.replicate n 1099511627776).set s 0) ((List.replicate n 1099511627776).set s 0) 0 := by
  have hd : ∀ v, v < n → dAt ((List.replicate n 1099511627776).set s 0) v = if s = v then 0 else 1099511627776 := fun v hv => by rw [jbI (by simpa using hs)]; simp [dAt, hv]
  refine ⟨by simp, by simp, fun v hv hk => ?_, fun v hv hk => ?_, fun v hv hk hr => ?_, fun i u v w _ hp => hp.elim, fun v hv => ?_⟩
  · rw [hd v hv, if_neg (fun h => by subst h; rw [hR.src.1] at hk; cases hk)]
  · have := hR.small hok hv hk
    rw [hd v hv]
    split
    · rename_i h; subst h; rw [hR.src.2]; omega
    · omega
  · by_cases h : v = s
    · subst h; rw [hd v hv, if_pos rfl, hR.src.2]
    · obtain ⟨u, i, w, hu, hku, hE, hD⟩ := hR.par v hv hk h
      have := hE.pos hok
      have := jga (D := D) (v := v) hu hku (by omega)
      omega
  · rw [hd v hv]; split <;> omega
theorem BFR.relax (h : BFR l n s K D r Pr d ed c) (hR : RD l n s K D) (hok : jaL n l) {i u v : Nat} {w : Int} (hE : jb3 l i u v w) (hu : u < n) (hv : v < n) (h1 : dAt d u < 1099511627776) (h2 : dAt d u + w ≤ dAt d v) :
    BFR l n s K D r (fun j => Pr j ∨ j = i) (d.set v (dAt d u + w)) (ed.set v (dAt ed u + 1)) (c + 1) := by
  have hku : K u = true := by
    cases hk : K u with
    | true => rfl
    | false => have := h.unk u hu hk; omega
  obtain ⟨hkv, hdv⟩ := hR.clo i u v w hE hu hv hku
  have hlu := h.lo u hu hku
  have hlv := h.lo v hv hkv
  have hvl : v < d.length := by rw [h.dlen]; exact hv
  have hve : v < ed.length := by rw [h.elen]; exact hv
  have d1 : ∀ x, x ≠ v → dAt (d.set v (dAt d u + w)) x = dAt d x := fun x hx => by rw [jbI hvl, if_neg (Ne.symm hx)]
  have d2 : dAt (d.set v (dAt d u + w)) v = dAt d u + w := by rw [jbI hvl, if_pos rfl]
  refine ⟨by simp [h.dlen], by simp [h.elen], fun x hx hk => ?_, fun x hx hk => ?_, fun x hx hk hr => ?_, fun j a b w' hE' hp ha hb hka hra => ?_, fun x hx => ?_⟩
  · rw [d1 x (fun he => by rw [he, hkv] at hk; cases hk)]; exact h.unk x hx hk
  · by_cases he : x = v
    · subst he; rw [d2]; omega
    · rw [d1 x he]; exact h.lo x hx hk
  · have h3 := h.rnd x hx hk hr
    by_cases he : x = v
    · subst he; rw [d2]; omega
    · rw [d1 x he]; exact h3
  · by_cases he : b = v
    · rw [he, d2]
      rcases hp with hp | rfl
      · have := h.pr j a b w' hE' hp ha hb hka hra; rw [he] at this; omega
      · obtain ⟨_, a1, a2, a3⟩ := hE
        obtain ⟨_, b1, b2, b3⟩ := hE'
        have e1 : a = u := by omega
        subst e1
        have := h.rnd a ha hka hra
        omega
    · rw [d1 b he]
      rcases hp with hp | rfl
      · exact h.pr j a b w' hE' hp ha hb hka hra
      · obtain ⟨_, a1, a2, a3⟩ := hE
        obtain ⟨_, b1, b2, b3⟩ := hE'
        exact absurd (by omega) he
  · rw [jbI hve]
    have h4 := h.ebd x hx
    have h5 := h.ebd u hu
    split <;> omega
theorem BFR.keep (h : BFR l n s K D r Pr d ed c) (hR : RD l n s K D) (hok : jaL n l) {i u v : Nat} {w : Int} (hE : jb3 l i u v w) (hno : ¬ (dAt d u < 1099511627776 ∧ dAt d u + w < dAt d v)) : BFR l n s K D r (fun j => Pr j ∨ j = i) d ed c :=
  { h with pr := fun j a b w' hE' hp ha hb hka hra => by
                  rcases hp with hp | rfl
                  · exact h.pr j a b w' hE' hp ha hb hka hra
                  · obtain ⟨_, a1, a2, a3⟩ := hE
                    obtain ⟨_, b1, b2, b3⟩ := hE'
                    have e1 : a = u := by omega
                    have e2 : b = v := by omega
                    subst e1 e2
                    have h1 := h.rnd a ha hka hra
                    have h2 := hR.small hok ha hka
                    have h4 : ¬ (dAt d a + w < dAt d b) := fun q => hno ⟨by omega, q⟩
                    omega }
theorem BFR.round (h : BFR l n s K D r (fun i => i < l.length) d ed c) (hR : RD l n s K D) (hok : jaL n l) (hs : s < n) : BFR l n s K D (r + 1) (fun i => i < 0) d ed c :=
  { h with
    rnd := fun v hv hk hr => by
      by_cases hvs : v = s
      · by_cases hr2 : jjk n K D v ≤ r
        · exact h.rnd v hv hk hr2
        · subst hvs
          have h0 : jjk n K D v = 0 := by
            unfold jjk
            rw [List.countP_eq_zero]
            intro x hx
            simp only [Bool.and_eq_true, decide_eq_true_eq, not_and]
            intro hkx
            have := hR.nn x (by simpa using hx) hkx
            rw [hR.src.2]; omega
          omega
      · obtain ⟨u, i, w, hu, hku, hE, hD⟩ := hR.par v hv hk hvs
        have hp := hE.pos hok
        have h0 := jga (D := D) (v := v) hu hku (by omega)
        have h1 := h.pr i u v w hE hE.1 hu hv hku (by omega)
        have h2 := h.lo v hv hk
        omega
    pr := fun i u v w _ hp => absurd hp (by omega) }
theorem BFR.done (h : BFR l n s K D r Pr d ed c) (hr : n ≤ r) : ∀ v, v < n → dAt d v = if K v = true then D v else 1099511627776 := fun v hv => by
  cases hk : K v with
  | true => rw [if_pos rfl]; exact h.rnd v hv hk (by have := jkJ n K D v; omega)
  | false => rw [if_neg (by simp)]; exact h.unk v hv hk
end
def rv (a : Edg) : Edg := ⟨a.t, a.f, a.secs⟩
theorem rv_rv (l : List Edg) : (l.map rv).map rv = l := by
  rw [List.map_map]
  have : rv ∘ rv = id := by funext a; rfl
  rw [this, List.map_id]
theorem jaL.rv {n : Nat} {l : List Edg} (h : jaL n l) : jaL n (l.map rv) := by
  refine ⟨h.n1, h.n2, by simpa using h.len, fun a ha => ?_, fun a ha => ?_⟩
  · obtain ⟨b, hb, rfl⟩ := List.mem_map.1 ha
    exact ⟨(h.nodes b hb).2, (h.nodes b hb).1⟩
  · obtain ⟨b, hb, rfl⟩ := List.mem_map.1 ha
    exact h.secs b hb
end Go.Proofs.YtgcokllbophkkaaGreat
namespace Go.Proofs.YtgcokllbophkkaaGreat
open Go Go.W Go.RowKit
theorem jgd (n k : Int) (A : Option Addr) (m cap : Nat) (w0 : World) :
  Calls Tryz.prog 78 #[.agg #[I n, .slice A m cap], I k] w0 fun e w' => e = .returned (.bool (jaV n k)) ∧ Below w0.heap.size w0 w' := by
 have H := SH.refl w0
 refine Calls.ofWP Tryz.func78 rfl Tryz.results78 Tryz.ntmps78 rfl<|Y.qr<|Y.bx (cA rfl) H ?_
 clear H; intro g2 w H
 refine Y.aB rfl<|Y.z<|Y.qr<|Y.a rfl<|Y.v (Ev.leq rfl rfl)<|Y.B rfl<|Y.gm rfl<|Y.gf rfl<|Y.yy H 0 rfl<|Y.g rfl rfl (fun hg => Ev.lss (gvE hg rfl) (gvE hg rfl))<|Y.pa rfl<|Y.aB rfl<|Y.z ?_
 refine WP.ret ⟨_, rfl, ?_⟩
 exact ⟨rfl, H.below⟩
theorem jgx (n : Int) (A : Option Addr) (l : List Edg) (cap : Nat) (w0 : World) (hz : ja3 w0 A l) :
  Calls Tryz.prog 44 #[.agg #[I n, .slice A l.length cap]] w0 fun e w' => e = .returned (I (jax n l)) ∧ Below w0.heap.size w0 w' := by
 have H := SH.refl w0
 refine Calls.ofWP Tryz.func44 rfl Tryz.results44 Tryz.ntmps44 rfl<|Y.qr<|Y.bx (cA rfl) H ?_
 clear H; intro g1 w H
 refine Y.bz rfl<|Y.qq<|Y.W H 0 rfl<|Y.lt rfl<|Y.B rfl<|Y.gf rfl<|Y.yy H 0 rfl<|Y.g rfl rfl (fun hg => Ev.gtr (gvE hg rfl) rfl)<|Y.po rfl<|Y.z ?_
 refine WP.cond rfl (fun hc1 => ?_) (fun hc1 => ?_)
 ·refine Y.qr<|Y.bz rfl ?_
  refine WP.ret ⟨_, rfl, ?_⟩
  exact ⟨by rw [jax, if_pos hc1]; rfl, H.below⟩
 refine Y.k<|Y.qq<|Y.W H 0 rfl<|Y.E rfl<|Y.v (Ev.gtr rfl rfl)<|Y.z ?_
 refine WP.cond rfl (fun hc3 => ?_) (fun hc3 => ?_)
 ·refine Y.qr<|Y.bz rfl ?_
  refine WP.ret ⟨_, rfl, ?_⟩
  exact ⟨by rw [jax, if_neg (by simp [hc1]), if_pos (by simpa using hc3)]; rfl, H.below⟩
 have hl : l.length ≤ 512 := by simp at hc3; omega
 have e0 : jax n l = jbq n l := by rw [jax, if_neg (by simp [hc1]), if_neg (by simpa using hc3)]
 refine Y.k<|Y.qq<|Y.W H 0 rfl<|Y.E rfl<|Y.a rfl<|Y.z<|WP.block<|WP.loop [2, 4, 20, 21, 22, 23, 24, 25, 26, 27, 28, 29, 30, 31, 32, 33, 34, 35, 36, 37, 38, 39, 40, 41, 42, 43, 44] (fun k e w' => ∃ j : Nat, j + k = l.length ∧ e 20 = .int .i64 j ∧ SH w0 [] w' [⟨g1, 24, [I n, .slice A l.length cap]⟩] ∧ ∀ i (hi : i < l.length), i < j → jc6 n l[i] = false ∧ jb9 l[i] = false) (l.length) (⟨0, by omega, rfl, H, fun i _ hi => absurd hi (by omega)⟩) ?_
 clear H
 rintro k u w ⟨j, hk, h20, H, hall⟩
 refine WP.know (t := 20) h20<|Y.qr<|Y.lt rfl<|Y.z<|Y.q ?_
 refine WP.cond rfl (fun hc6 => ?_) (fun hc6 => ?_)
 ·have hlt : j < l.length := by simpa using hc6
  obtain ⟨b, o, rfl, hc⟩ := hz j hlt
  have hc' := k7 H hc
  refine Y.k<|Y.q<|WP.block<|Y.qr<|Y.U rfl<|Y.v (by (change Ev _ _ _ _ (Op.load 85 (Operand.tmp 22)) _; exact Ev.loadN (jah l[j]) (j6 rfl) (j4 rfl) rfl hc'))<|Y.al H rfl rfl ?_
  clear H; intro g4 w H
  refine Y.ss 0 H rfl (cA rfl) rfl ?_
  clear H; intro w H
  refine Y.z<|Y.qq<|Y.O H 1 rfl<|Y.W H 0 rfl<|Y.cl 27 rfl (jgd n l[j].f _ _ _ _) H ?_
  clear H; intro w H
  refine Y.v (Ev.not rfl)<|Y.B rfl<|Y.g rfl rfl (fun hg => Y.o H 1 rfl rfl)<|Y.gf rfl<|Y.yy H 0 rfl<|OPS.gcall0 (f := 78) (jgd n l[j].t _ _ _ _) (fun _ _ h => h) rfl rfl rfl rfl rfl (fun hg => EvC.conv (EvC.func (z7 rfl)) (l2 (gvE hg rfl) (gvE hg rfl))) ?_
  intro w hbc; replace H := H.toBelow hbc
  refine Y.g rfl rfl (fun hg => Ev.not (gvE hg rfl))<|Y.po rfl<|Y.z ?_
  refine WP.cond rfl (fun hc8 => ?_) (fun hc8 => ?_)
  ·refine Y.qr<|Y.bz rfl ?_
   refine WP.ret ⟨_, rfl, ?_⟩
   exact ⟨by rw [e0, ja8 (by omega) hall, List.drop_eq_getElem_cons hlt, jbq, if_pos (show jc6 n l[j] = true from hc8)]; rfl, H.below⟩
  refine Y.k<|Y.qr<|Y.W H 0 rfl<|Y.lt rfl<|Y.B rfl<|Y.gf rfl<|Y.yy H 0 rfl<|Y.g rfl rfl (fun hg => Ev.gtr (gvE hg rfl) rfl)<|Y.po rfl<|Y.z ?_
  refine WP.cond rfl (fun hc10 => ?_) (fun hc10 => ?_)
  ·refine Y.qr<|Y.bz rfl ?_
   refine WP.ret ⟨_, rfl, ?_⟩
   exact ⟨by rw [e0, ja8 (by omega) hall, List.drop_eq_getElem_cons hlt, jbq, if_neg (by rw [show jc6 n l[j] = false from hc8]; simp), if_pos (show jb9 l[j] = true from hc10)]; rfl, H.below⟩
  refine Y.k<|Y.r<|Y.P rfl<|Y.a rfl<|Y.z ?_
  refine ⟨Y.ag, k - 1, by omega, j + 1, by omega, rfl, H.drop (by simp), fun i hi hij => ?_⟩
  rcases Nat.lt_succ_iff_lt_or_eq.1 hij with h | rfl
  ·exact hall i hi h
  ·exact ⟨hc8, hc10⟩
 refine WP.exit<|XB.hit<|Y.qr<|Y.bz rfl ?_
 refine WP.ret ⟨_, rfl, ?_⟩
 have : j = l.length := by simp at hc6; omega
 subst this
 exact ⟨by rw [e0, ja8 (by omega) hall]; simp [jbq]; rfl, H.below⟩
theorem jhe (a b s : Int) (w0 : World) :
  Calls Tryz.prog 100 #[.agg #[I a, I b, I s]] w0 fun e w' => e = .returned (.tuple #[I a, I b]) ∧ Below w0.heap.size w0 w' := by
 have H := SH.refl w0
 refine Calls.ofWP Tryz.func100 rfl Tryz.results100 Tryz.ntmps100 rfl<|Y.qr<|Y.bx (cA rfl) H ?_
 clear H; intro g1 w H
 refine Y.b rfl<|Y.bz rfl<|Y.q<|WP.rstill mixed (by kernel_rfl) H ?_
 clear H; intro w hbw1 H
 refine Y.W H 0 rfl<|Y.W H 0 rfl<|Y.b rfl<|Y.b rfl<|OPS.nil_s ?_
 refine WP.ret ⟨_, rfl, ?_⟩
 exact ⟨rfl, H.below⟩
end Go.Proofs.YtgcokllbophkkaaGreat
namespace Go.Proofs.YtgcokllbophkkaaGreat
open Go Go.W Go.RowKit
structure SpW (l : List Edg) (n s : Nat) (K : Nat → Bool) (D : Nat → Int) (x : Nat) (Pr : Nat → Prop) (found : List Bool) (best : List Leg) (h : List Ent) (p : Int) (A : Option Addr) (cap : Nat) (Lo : List Blk) : Prop where
 inv : SpI l n s K D x Pr found best h
 own : jfr A cap h Lo
 heap : jaM jaB h
 p0 : 0 ≤ p ∧ p ≤ 1000 * (1 + (n : Int) - jaN found)
 hp : (h.length : Int) ≤ p
theorem jel {a b k x y z m : Nat} (hl3 : x ≤ y + m) (hm : m ≤ 512) (h1 : a + 2000 ≤ b) (h2 : y + 1 = z) (hk : b + z ≤ k + 1) : a + x ≤ k := by
 have h4 : x ≤ y + 512 := by omega
 have h5 : a + 512 ≤ b := by omega
 omega
theorem je5 {a b k x y z m : Nat} (hl3 : x ≤ y + m) (hm : m ≤ 512) (h1 : a < b) (h2 : y + 1 = z) (hk : b * 2000 + z ≤ k + 1) : a * 2000 + x ≤ k :=
 jel hl3 hm (by rw [← Nat.succ_mul]; exact Nat.mul_le_mul_right _ h1) h2 hk
theorem jiI (n s : Nat) (A : Option Addr) (l : List Edg) (cap : Nat) (K : Nat → Bool) (D : Nat → Int) (w0 : World) (hok : jaL n l) (hs : s < n) (hR : RD l n s K D) (hz : ja3 w0 A l) :
  Calls Tryz.prog 99 #[.agg #[I n, .slice A l.length cap], I s, .func (.func 100) #[] #[]] w0 fun e w' => ∃ (gB gF : Nat) (best : List Leg) (found : List Bool), e = .returned (.tuple #[.slice (some ⟨gB, 0, none⟩) n n, .slice (some ⟨gF, 0, none⟩) n n]) ∧ best.length = n ∧ found.length = n ∧
   (∀ v, v < n → fnd found v = K v ∧ (K v = true → bst best v = D v)) ∧ SH w0 [] w' [⟨gB, 159, best.flatMap jaX⟩, ⟨gF, 4, found.map Bo⟩] := by
 have H := SH.refl w0
 have hn2 := hok.n2
 have hll := hok.len
 refine Calls.ofWP Tryz.func99 rfl Tryz.results99 Tryz.ntmps99 rfl<|Y.qr<|Y.bx (cA rfl) H ?_
 clear H; intro g3 w H
 refine Y.aS rfl<|Y.aS rfl<|Y.z<|Y.q ?_
 refine WP.rheldC [8, 9, 17, 18, 19, 20, 21, 22] (fun u w' => ∃ gB gF : Nat, u 8 = .slice (some ⟨gB, 0, none⟩) n n ∧ u 9 = .slice (some ⟨gF, 0, none⟩) n n ∧ SH w0 [] w' [⟨g3, 24, [I n, .slice A l.length cap]⟩, ⟨gB, 159, mkL n (jaX default)⟩, ⟨gF, 4, mkL n [Bo false]⟩]) mixed H ?_ ?_
 ·clear H; intro w hbw1 H
  refine Y.tf 0 H rfl<|Y.tl 1 H 0 rfl<|Y.tf 3 H rfl<|Y.tl 4 H 0 rfl ?_
  refine Y.A2 2 5 rfl rfl rfl ?_ ?_
  ·refine Y.M H rfl ?_
   clear H; intro g19 w H
   refine Y.z <| ⟨(H.drop Y.sc), ?_⟩
   refine Y.t 6 (H.drop Y.sc) rfl rfl (fun w H => Ev.asS rfl)<|Y.A1 5 rfl rfl<|Y.M H rfl ?_
   clear H; intro g22 w H
   refine Y.z <| ⟨(H.drop (Y.sc.trans Y.sc)), ?_⟩
   refine Y.t 7 (H.drop (Y.sc.trans Y.sc)) rfl rfl (fun w H => Ev.asS rfl)<|Y.dn ?_
   refine ⟨Y.ag, g19, g22, rfl, rfl, ?_⟩; exact H.reidx [2, 1, 0] (by decide) rfl
  ·refine Y.M H rfl ?_
   clear H; intro g22 w H
   refine Y.z <| ⟨(H.drop Y.sc), ?_⟩
   refine Y.A1 2 rfl rfl<|Y.M H rfl ?_
   clear H; intro g19 w H
   refine Y.z <| ⟨(H.drop (Y.sc.trans Y.sc)), ?_⟩
   refine Y.t 6 (H.drop (Y.sc.trans Y.sc)) rfl rfl (fun w H => Ev.asS rfl)<|Y.t 7 (H.drop (Y.sc.trans Y.sc)) rfl rfl (fun w H => Ev.asS rfl)<|Y.dn ?_
   refine ⟨Y.ag, g19, g22, rfl, rfl, ?_⟩; exact H.reidx [2, 0, 1] (by decide) rfl
 clear H
 rintro u w ⟨gB, gF, h8, h9, H⟩
 refine WP.know (t := 8) h8 (WP.know (t := 9) h9 ?_)
 rw [jgh, jag (enc1 := Bo)] at H
 refine Y.qr<|Y.c2 23 rfl (qNew w) ?_
 rintro _ w ⟨gq, rfl, Hc⟩
 refine ⟨_, rfl, ?_⟩
 replace H := SH.call (L1 := [_, _, _]) (Lv := []) H Hc
 clear Hc
 refine Y.v (Ev.asP rfl)<|Y.z<|Y.qr<|Y.D rfl<|Y.a rfl<|Y.v (Ev.build (jlg rfl))<|Y.c2 27 rfl (jkW gq 0 none 0 s 0 0 [] [] w (qLv gq none 0 [] 0 [] |>.map (·.g)) OwnS.nil jaM.nil (by simp) (by omega) (H.restart Y.sr)) ?_
 rintro _ w ⟨rfl, Aq, capq, h1, Lo, hpm, hh1, hO1, Hc⟩
 refine ⟨_, rfl, ?_⟩
 obtain rfl : h1 = [⟨s, 0, 0, 0⟩] := List.perm_singleton.1 hpm
 replace H := SH.call (Lv := qLv gq none 0 [] 0 []) H Hc
 clear Hc
 refine Y.z<|WP.block<|WP.loop [6, 7, 11, 12, 14, 15, 16, 28, 29, 30, 31, 32, 33, 34, 35, 36, 37, 38, 39, 40, 41, 42, 43, 44, 45, 46, 47, 48, 49, 50, 51, 52, 53, 54, 55, 56, 57, 58, 59, 60, 61, 62, 63, 64, 65, 66, 67, 68, 69, 70, 71, 72, 73, 74, 75, 76, 77, 78, 79, 80, 81, 82, 83, 84, 85, 86, 87, 88, 89, 90, 91] (fun k _ w' => ∃ (found : List Bool) (best : List Leg) (h : List Ent) (p : Int) (Aq : Option Addr) (capq : Nat) (Lo : List Blk) (x : Nat), SH w0 [] w' ([⟨g3, 24, [I n, .slice A l.length cap]⟩, ⟨gB, 159, best.flatMap jaX⟩, ⟨gF, 4, found.map Bo⟩] ++ qLv gq Aq capq h p Lo) ∧ SpW l n s K D x (fun _ => True) found best h p Aq capq Lo ∧ jaN found * 2000 + h.length ≤ k) (n * 2000 + 1) (⟨List.replicate n false, List.replicate n default, [⟨s, 0, 0, 0⟩], 0 + 1, Aq, capq, Lo, s, H, ⟨SpI.init hR hs, hO1, hh1, by simp [jaN], by simp⟩, by simp [jaN]⟩) ?_
 clear H hO1 hh1
 rintro k u w ⟨found, best, h, p, Aq, capq, Lo, x, H, hW, hk⟩
 have hfl := hW.inv.flen
 have hbl := hW.inv.blen
 have hon := jgn found
 have hp0 := hW.p0
 have hhp := hW.hp
 have hhl : h.length ≤ 1000000 := by omega
 refine WP.block<|Y.qr<|Y.D rfl<|Y.c2 30 rfl (qPop2 gq capq Aq p h Lo w (qLv gq Aq capq h p Lo |>.map (·.g)) hW.own hW.heap hhl (H.restart Y.sr)) ?_
 rintro _ w ⟨y, ok, h', Lo', rfl, hno, hyes, hh', hO', Hc⟩
 refine ⟨_, rfl, ?_⟩
 replace H := SH.call (Lv := qLv gq Aq capq h p Lo) (L1 := [_, _, _]) H Hc
 clear Hc
 refine Y.T rfl<|Y.G rfl<|Y.G rfl<|Y.al H rfl rfl ?_
 clear H; intro g11 w H
 refine Y.ss 0 H rfl (cA rfl) rfl ?_
 clear H; intro w H
 refine Y.aB rfl<|Y.z<|Y.qq<|Y.B rfl<|Y.v (Ev.not rfl)<|Y.z ?_
 refine WP.cond rfl (fun hc5 => ?_) (fun hc5 => ?_)
 ·have hok2 : ok = false := by simpa using hc5
  obtain ⟨rfl, rfl⟩ := hno hok2
  refine Y.qr<|Y.sS rfl<|Y.sS rfl<|Y.aS rfl<|Y.aS rfl<|Y.z ?_
  refine WP.ret ⟨_, rfl, ?_⟩
  exact ⟨gB, gF, best, found, rfl, hbl, hfl, hW.inv.done hok hR, H.reidx [2, 3] (by decide) rfl⟩
 have hok2 : ok = true := by simpa using hc5
 obtain ⟨hpm2, hmin⟩ := hyes hok2
 obtain ⟨⟨v, hvn, hyv, hkv, hle⟩, _⟩ := hW.inv.ent y (hpm2.subset (List.mem_cons_self ..))
 have hlen2 := hpm2.length_eq
 simp only [List.length_cons] at hlen2
 obtain ⟨yn, ys, ye, yk⟩ := y
 simp only at hyv hle hmin
 subst hyv
 simp only [ja9, jam, List.set_cons_zero, List.set_cons_succ, List.cons_append, List.nil_append] at H
 have hdv : fnd found v = found[v]'(by omega) := by simp [fnd, hfl, hvn]
 refine Y.k<|Y.qq ?_
 obtain ⟨_, _, e1, hdc⟩ := y9 H 3 rfl v (by omega)
 cases e1
 refine Y.sS rfl<|Y.W H 0 rfl<|Y.I rfl<|Y.v (Y.c (by assumption) rfl) ?_
 refine Y.z ?_
 refine WP.cond rfl (fun hc7 => ?_) (fun hc7 => ?_)
 ·have hnext : ∃ g', g' < k ∧ ∃ (found : List Bool) (best : List Leg) (h : List Ent) (p : Int) (Aq : Option Addr) (capq : Nat) (Lo : List Blk) (x : Nat), SH w0 [] w ([⟨g3, 24, [I n, .slice A l.length cap]⟩, ⟨gB, 159, best.flatMap jaX⟩, ⟨gF, 4, found.map Bo⟩] ++ qLv gq Aq capq h p Lo) ∧ SpW l n s K D x (fun _ => True) found best h p Aq capq Lo ∧ jaN found * 2000 + h.length ≤ g' :=
   ⟨jaN found * 2000 + h'.length, by omega, found, best, h', p, Aq, capq, Lo', x, H.drop Y.sc, ⟨hW.inv.stale hpm2 rfl (by rw [hdv]; exact hc7), hO', hh', hp0, by omega⟩, Nat.le_refl _⟩
  refine WP.exit<|XB.hit ?_
  exact ⟨Y.ag, hnext⟩
 obtain ⟨hkv2, hyd, hye, hys, hI2⟩ := hW.inv.fresh hok hR hpm2 hmin rfl hvn (by rw [hdv]; exact hc7)
 simp only at hyd hye hys hI2
 have hopen := jb1 found v (by omega) (by show fnd found v = false; rw [hdv]; exact hc7)
 have hDn := hR.nn v hvn hkv2
 have hon2 := jgn (found.set v true)
 rw [List.length_set] at hon2
 refine Y.k<|Y.q ?_
 have Hf := H
 replace H := H.reidx (L' := [⟨g11, 189, [I v, I ys, I ye]⟩, ⟨g3, 24, [I n, .slice A l.length cap]⟩]) [0, 1] (by decide) rfl
 have hpu1 : jam (best.flatMap jaX) (0 + v * 2) (jaX ⟨ys, ye⟩) = (best.set v ⟨ys, ye⟩).flatMap jaX := by rw [Nat.zero_add]; exact jb0 jdc best v _ (by omega)
 have hpu2 : jam (found.map Bo) (0 + v) [Bo true] = (found.set v true).map Bo := by rw [Nat.zero_add, jae]
 refine WP.rheldC [42, 43, 44, 45, 46, 47, 48, 49, 50, 51] (fun _ w' => SH w0 [] w' ([⟨g11, 189, [I v, I ys, I ye]⟩, ⟨g3, 24, [I n, .slice A l.length cap]⟩, ⟨gB, 159, (best.set v ⟨ys, ye⟩).flatMap jaX⟩, ⟨gF, 4, (found.set v true).map Bo⟩] ++ qLv gq Aq capq h' p Lo')) mixed H ?_ ?_
 ·clear H; intro w hbw8 H
  refine Y.t 0 H rfl rfl (fun w H => Ev.mvS rfl)<|Y.tf 1 H rfl<|Y.tl 2 H 0 rfl<|Y.t 3 H rfl rfl (fun w H => Ev.mvS rfl)<|Y.tf 4 H rfl<|Y.tl 5 H 0 rfl<|Y.tf 6 H rfl<|Y.t 7 H rfl rfl (fun w H => Ev.loadN [_, _] (j6 rfl) (j4 rfl) rfl ⟨H.ldL 0 rfl _ rfl, H.ldL 0 rfl _ rfl, trivial⟩)<|Y.t 8 H rfl rfl (fun w H => Y.X rfl rfl rfl rfl rfl)<|Y.A1 9 rfl rfl ?_
  try replace Hf := Hf.toBelow hbw8
  refine OPS.store (vs := jaX ⟨ys, ye⟩) 2 _ rfl rfl rfl (j4 rfl) rfl (cA rfl) rfl rfl Hf rfl (by simp only [x8 jdc]; omega) ?_
  clear H Hf; intro w Hf
  simp only [List.set_cons_zero, List.set_cons_succ] at Hf
  rw [hpu1] at Hf
  have H := Hf.reidx (L' := [⟨g11, 189, [I v, I ys, I ye]⟩, ⟨g3, 24, [I n, .slice A l.length cap]⟩]) [0, 1] (by decide) rfl
  refine Y.z <| ⟨(H), ?_⟩
  refine Y.t 10 H rfl rfl (fun w H => Y.x rfl rfl rfl rfl)<|Y.A1 11 rfl rfl ?_
  try replace Hf := Hf.toBelow hbw8
  refine OPS.store (vs := [Bo true]) 3 _ rfl rfl rfl (j4 rfl) rfl (cB rfl) rfl rfl Hf rfl (by simp only [List.length_map]; omega) ?_
  clear H Hf; intro w Hf
  simp only [List.set_cons_zero, List.set_cons_succ] at Hf
  rw [hpu2] at Hf
  have H := Hf.reidx (L' := [⟨g11, 189, [I v, I ys, I ye]⟩, ⟨g3, 24, [I n, .slice A l.length cap]⟩]) [0, 1] (by decide) rfl
  refine Y.z <| ⟨(H), ?_⟩
  refine Y.dn ?_
  exact ⟨Y.ag, Hf⟩
 clear H
 rintro u2 w H
 refine Y.qr<|Y.W H 1 rfl<|Y.E rfl<|Y.a rfl<|Y.z<|WP.block<|WP.loop [14, 15, 16, 55, 56, 57, 58, 59, 60, 61, 62, 63, 64, 65, 66, 67, 68, 69, 70, 71, 72, 73, 74, 75, 76, 77, 78, 79, 80, 81, 82, 83, 84, 85, 86, 87, 88, 89, 90, 91] (fun k2 e w' => ∃ (j : Nat) (h2 : List Ent) (p2 : Int) (Aq2 : Option Addr) (capq2 : Nat) (Lo2 : List Blk), j + k2 = l.length ∧ e 55 = I j ∧ SH w0 [] w' ([⟨g11, 189, [I v, I ys, I ye]⟩, ⟨g3, 24, [I n, .slice A l.length cap]⟩, ⟨gB, 159, (best.set v ⟨ys, ye⟩).flatMap jaX⟩, ⟨gF, 4, (found.set v true).map Bo⟩] ++ qLv gq Aq2 capq2 h2 p2 Lo2) ∧ SpI l n s K D v (fun i => i < j) (found.set v true) (best.set v ⟨ys, ye⟩) h2 ∧ jfr Aq2 capq2 h2 Lo2 ∧ jaM jaB h2 ∧ 0 ≤ p2 ∧ p2 ≤ p + j ∧ (h2.length : Int) ≤ p2 ∧ h2.length ≤ h'.length + j) (l.length) (⟨0, h', p, Aq, capq, Lo', by omega, rfl, H, hI2.mono fun i _ q => absurd q (by omega), hO', hh', hp0.1, by omega, by omega, by omega⟩) ?_
 clear H hO' hh' hI2
 rintro k2 u2 w ⟨j, h2, p2, Aq2, capq2, Lo2, hk2, h55, H, hI2, hO2, hh2, hp2, hp3, hhp2, hhl2⟩
 refine WP.know (t := 55) h55 ?_
 unfold qLv q8 at H
 refine Y.qr<|Y.lt rfl<|Y.z<|Y.q ?_
 refine WP.cond rfl (fun hc10 => ?_) (fun hc10 => ?_)
 ·have hlt : j < l.length := by simpa using hc10
  obtain ⟨b, o, rfl, hc⟩ := hz j hlt
  have hc' := k7 H hc
  have hnd := hok.nodes l[j] (List.getElem_mem hlt)
  have hsc := hok.secs l[j] (List.getElem_mem hlt)
  obtain ⟨a, hfa⟩ := Int.eq_ofNat_of_zero_le hnd.1.1
  obtain ⟨b', htb⟩ := Int.eq_ofNat_of_zero_le hnd.2.1
  have ham : a < n := by omega
  have hbm : b' < n := by omega
  have hEd : jb3 l j a b' l[j].secs := ⟨hlt, hfa, htb, rfl⟩
  have hfl2 : (found.set v true).length = n := by simp [hfl]
  have hfb : fnd (found.set v true) b' = (found.set v true)[b']'(by omega) := by simp [fnd, hfl, hbm]
  have hfv : fnd (found.set v true) v = true := by rw [jf6 (by omega), if_pos rfl]
  refine Y.k<|Y.q<|WP.block<|Y.qr<|Y.U rfl<|Y.v (by (change Ev _ _ _ _ (Op.load 85 (Operand.tmp 57)) _; exact Ev.loadN (jah l[j]) (j6 rfl) (j4 rfl) rfl hc'))<|Y.al H rfl rfl ?_
  clear H; intro g14 w H
  refine Y.ss 0 H rfl (cA rfl) rfl ?_
  clear H; intro w H
  refine Y.z<|Y.q ?_
  rw [show jah l[j] = [I a, I b', I l[j].secs] from by unfold jah; rw [hfa, htb]] at H
  refine Y.r<|Y.v (Ev.mvF rfl)<|Y.O H 0 rfl<|OPS.call (d := some 62) rfl rfl rfl (EvC.clos rfl (z7 rfl)) (jhe a b' l[j].secs _) ?_
  rintro _ w ⟨rfl, hb⟩
  refine ⟨_, rfl, ?_⟩
  replace H := H.toBelow hb; clear hb
  refine Y.T rfl<|Y.G rfl<|Y.G rfl<|Y.b rfl<|Y.bz rfl<|Y.qr ?_
  obtain ⟨_, _, e1, hfc⟩ := y9 H 4 rfl b' (by omega)
  cases e1
  refine Y.a rfl<|Y.W H 1 rfl<|Y.v (Ev.eql rfl rfl)<|Y.B rfl<|Y.g rfl rfl (fun hg => Ev.mvS rfl)<|Y.gm rfl<|Y.g rfl rfl (fun hg => Ev.indexAddr1 (x7 rfl) (j4 rfl) (gvE hg rfl) (gvE hg rfl) rfl (by omega))<|Y.g rfl rfl (fun hg => Ev.load1 (j6 rfl) (gvE hg rfl) (by assumption)) ?_
  refine Y.g rfl rfl (fun hg => Ev.not (gvE hg rfl))<|Y.pa rfl<|Y.z ?_
  refine WP.cond rfl (fun hc13 => ?_) (fun hc13 => ?_)
  ·rw [Bool.and_eq_true, Bool.not_eq_true', decide_eq_true_eq] at hc13
   have hav : a = v := by omega
   subst hav
   replace H : SH w0 [] w (([⟨g14, 85, [I a, I b', I l[j].secs]⟩, ⟨g11, 189, [I a, I ys, I ye]⟩, ⟨g3, 24, [I n, .slice (some ⟨b, o, none⟩) l.length cap]⟩, ⟨gB, 159, (best.set a ⟨ys, ye⟩).flatMap jaX⟩, ⟨gF, 4, (found.set a true).map Bo⟩]) ++ qLv gq Aq2 capq2 h2 p2 Lo2) := H
   refine Y.r<|Y.D rfl<|Y.a rfl<|Y.F rfl<|Y.W H 1 rfl<|Y.W H 0 rfl<|Y.P rfl<|Y.F rfl<|Y.W H 1 rfl<|Y.P rfl<|Y.v (Ev.build (jhK rfl rfl))<|Y.v (Ev.build (jh2 rfl rfl))<|Y.c2 90 rfl (jkW gq capq2 Aq2 p2 b' (ys + l[j].secs) (ye + 1) h2 Lo2 w (qLv gq Aq2 capq2 h2 p2 Lo2 |>.map (·.g)) hO2 hh2 (by omega) (by omega) (H.restart Y.sr)) ?_
   rintro _ w ⟨rfl, Aq3, capq3, h3, Lo3, hpm3, hh3, hO3, Hc⟩
   refine ⟨_, rfl, ?_⟩
   replace H := SH.call (Lv := qLv gq Aq2 capq2 h2 p2 Lo2) (L1 := [_, _, _, _, _]) H Hc
   clear Hc
   have hI3 := hI2.push hok hR hEd hvn hfv hbm hyd hye hys hpm3
   have hl3 := hpm3.length_eq
   simp only [List.length_append, List.length_cons, List.length_nil] at hl3
   have hnx : ∃ (h3 : List Ent) (p3 : Int) (Aq3 : Option Addr) (capq3 : Nat) (Lo3 : List Blk), SH w0 [] w ([⟨g11, 189, [I a, I ys, I ye]⟩, ⟨g3, 24, [I n, .slice (some ⟨b, o, none⟩) l.length cap]⟩, ⟨gB, 159, (best.set a ⟨ys, ye⟩).flatMap jaX⟩, ⟨gF, 4, (found.set a true).map Bo⟩] ++ qLv gq Aq3 capq3 h3 p3 Lo3) ∧ SpI l n s K D a (fun i => i < j + 1) (found.set a true) (best.set a ⟨ys, ye⟩) h3 ∧ jfr Aq3 capq3 h3 Lo3 ∧ jaM jaB h3 ∧ 0 ≤ p3 ∧ p3 ≤ p + (j + 1) ∧ (h3.length : Int) ≤ p3 ∧ h3.length ≤ h'.length + (j + 1) :=
    ⟨h3, p2 + 1, Aq3, capq3, Lo3, H.drop Y.sc, hI3.mono fun i _ q => by omega, hO3, hh3, by omega, by omega, by omega, by omega⟩
   refine Y.z<|Y.r<|Y.P rfl<|Y.a rfl<|Y.z ?_
   obtain ⟨h3, p3, Aq3, capq3, Lo3, H', hI3, hO3, hh3, q1, q2, q3, q4⟩ := hnx
   exact ⟨Y.ag, k2 - 1, by omega, j + 1, h3, p3, Aq3, capq3, Lo3, by omega, rfl, H', hI3, hO3, hh3, q1, by omega, q3, by omega⟩
  have hI3 := hI2.pass (i := j) fun b2 w2 hE2 => by
   obtain ⟨_, q1, q2, _⟩ := hE2
   have e1 : a = v := by omega
   have e2 : b2 = b' := by omega
   subst e1 e2
   rw [hfb]
   simpa using hc13
  have hnx : ∃ (h3 : List Ent) (p3 : Int) (Aq3 : Option Addr) (capq3 : Nat) (Lo3 : List Blk), SH w0 [] w ([⟨g11, 189, [I v, I ys, I ye]⟩, ⟨g3, 24, [I n, .slice (some ⟨b, o, none⟩) l.length cap]⟩, ⟨gB, 159, (best.set v ⟨ys, ye⟩).flatMap jaX⟩, ⟨gF, 4, (found.set v true).map Bo⟩] ++ qLv gq Aq3 capq3 h3 p3 Lo3) ∧ SpI l n s K D v (fun i => i < j + 1) (found.set v true) (best.set v ⟨ys, ye⟩) h3 ∧ jfr Aq3 capq3 h3 Lo3 ∧ jaM jaB h3 ∧ 0 ≤ p3 ∧ p3 ≤ p + (j + 1) ∧ (h3.length : Int) ≤ p3 ∧ h3.length ≤ h'.length + (j + 1) :=
   ⟨h2, p2, Aq2, capq2, Lo2, H.drop Y.sc, hI3.mono fun i _ q => by omega, hO2, hh2, by omega, by omega, by omega, by omega⟩
  refine Y.k<|Y.r<|Y.P rfl<|Y.a rfl<|Y.z ?_
  obtain ⟨h3, p3, Aq3, capq3, Lo3, H', hI3, hO3, hh3, q1, q2, q3, q4⟩ := hnx
  exact ⟨Y.ag, k2 - 1, by omega, j + 1, h3, p3, Aq3, capq3, Lo3, by omega, rfl, H', hI3, hO3, hh3, q1, by omega, q3, by omega⟩
 have hjl : j = l.length := by simp at hc10; omega
 have hm2 : jaN (found.set v true) * 2000 + h2.length ≤ k - 1 := by
  have hk1 : jaN found * 2000 + h.length ≤ (k - 1) + 1 := by omega
  exact je5 (m := l.length) (y := h'.length) (by omega) hll hopen hlen2 hk1
 have hnext : ∃ g', g' < k ∧ ∃ (found : List Bool) (best : List Leg) (h : List Ent) (p : Int) (Aq : Option Addr) (capq : Nat) (Lo : List Blk) (x : Nat), SH w0 [] w ([⟨g3, 24, [I n, .slice A l.length cap]⟩, ⟨gB, 159, best.flatMap jaX⟩, ⟨gF, 4, found.map Bo⟩] ++ qLv gq Aq capq h p Lo) ∧ SpW l n s K D x (fun _ => True) found best h p Aq capq Lo ∧ jaN found * 2000 + h.length ≤ g' :=
  ⟨k - 1, by omega, found.set v true, best.set v ⟨ys, ye⟩, h2, p2, Aq2, capq2, Lo2, v, H.drop Y.sc, ⟨hI2.mono fun i hi _ => by omega, hO2, hh2, ⟨hp2, by omega⟩, hhp2⟩, hm2⟩
 refine WP.exit<|XB.hit ?_
 exact ⟨Y.ag, hnext⟩
end Go.Proofs.YtgcokllbophkkaaGreat
namespace Go.Proofs.YtgcokllbophkkaaGreat
open Go Go.W Go.RowKit
open Classical in
noncomputable def x9 (n : Nat) (l : List Edg) (s v : Nat) : Int :=
 if h : ∃ KD : (Nat → Bool) × (Nat → Int), RD l n s KD.1 KD.2 then (if h.choose.1 v = true then h.choose.2 v else -1) else -1
theorem jb5 {n s : Nat} {l : List Edg} (hok : jaL n l) {K : Nat → Bool} {D : Nat → Int} (hR : RD l n s K D) {v : Nat} (hv : v < n) : x9 n l s v = if K v = true then D v else -1 := by
 have hex : ∃ KD : (Nat → Bool) × (Nat → Int), RD l n s KD.1 KD.2 := ⟨(K, D), hR⟩
 have hu := RD.unique hok hex.choose_spec hR v hv
 unfold x9
 rw [dif_pos hex]
 cases hk : K v with
 | true =>
  rw [hk] at hu
  rw [if_pos hu.1, if_pos rfl]
  exact hu.2 hu.1
 | false =>
  rw [hk] at hu
  rw [if_neg (by rw [hu.1]; simp), if_neg (by simp)]
noncomputable def jan (n : Nat) (l : List Edg) (s : Nat) : List Int := (List.range n).map (x9 n l s)
theorem jau (n : Nat) (l : List Edg) (s : Nat) : (jan n l s).length = n := by simp [jan]
theorem jbG {n : Nat} {l : List Edg} {s v : Nat} (h : v < (jan n l s).length) : (jan n l s)[v] = x9 n l s v := by simp [jan]
def jay (n : Int) (l : List Edg) (k : Int) : Int := if jax n l ≠ 0 then jax n l else if jaV n k = true then 0 else 7
noncomputable def jaq (n : Int) (l : List Edg) (k : Int) : List Int := if jay n l k = 0 then jan n.toNat l k.toNat else []
theorem jeY {n : Int} {l : List Edg} {k : Int} (h : jay n l k = 0) : ∃ m s : Nat, n = m ∧ k = s ∧ s < m ∧ jaL m l := by
 unfold jay at h
 split at h
 ·rename_i h1; exact absurd h h1
 ·rename_i h1
  split at h
  ·rename_i h2
   obtain ⟨m, rfl, hok⟩ := je3 (by simpa using h1)
   simp [jaV] at h2
   obtain ⟨s, rfl⟩ := Int.eq_ofNat_of_zero_le h2.1
   exact ⟨m, s, rfl, rfl, by omega, hok⟩
  ·cases h
theorem jiH (n s : Nat) (A : Option Addr) (l : List Edg) (cap : Nat) (w0 : World) (hok : jaL n l) (hs : s < n) (hz : ja3 w0 A l) :
  Calls Tryz.prog 80 #[.agg #[I n, .slice A l.length cap], I s] w0 fun e w' => ∃ g : Nat, e = .returned (.slice (some ⟨g, 0, none⟩) n n) ∧ SH w0 [] w' [⟨g, 3, (jan n l s).map I⟩] := by
 have H := SH.refl w0
 have hn2 := hok.n2
 obtain ⟨K, D, hR⟩ := jd0 hok hs
 refine Calls.ofWP Tryz.func80 rfl Tryz.results80 Tryz.ntmps80 rfl<|Y.qr<|Y.bx (cA rfl) H ?_
 clear H; intro g2 w H
 refine Y.aS rfl<|Y.z<|Y.qr<|Y.O H 0 rfl<|Y.a rfl<|Y.c2 12 rfl (jiI n s A l cap K D w hok hs hR (hz.sh H)) ?_
 rintro _ w ⟨gB, gF, best, found, rfl, hbl, hfl, hbf, Hc⟩
 refine ⟨_, rfl, ?_⟩
 replace H := SH.call (L1 := [_]) (Lv := []) H Hc
 clear Hc
 refine Y.T rfl<|Y.G rfl<|Y.G rfl<|Y.aS rfl<|Y.aS rfl<|Y.z<|Y.qr<|Y.W H 0 rfl<|Y.M H rfl ?_
 clear H; intro g17 w H
 refine Y.aS rfl<|Y.z ?_
 replace H := H.reidx (L' := [⟨g17, 3, (List.replicate n 0).map I⟩, ⟨gB, 159, best.flatMap jaX⟩, ⟨gF, 4, found.map Bo⟩]) [0, 2, 3] (by decide) (by rw [← jag]; rfl)
 have hml : (jan n l s).length = (List.replicate n (0 : Int)).length := by simp [jan]
 have htl := jau n l s
 refine Y.qq<|Y.sS rfl<|Y.E rfl<|Y.a rfl<|Y.z<|WP.block<|WP.loop [8, 20, 21, 22, 23, 24, 25, 26, 27, 28, 29, 30, 31, 32, 33, 34, 35, 36, 37, 38] (fun k e w' => ∃ q : Nat, q + k = n ∧ e 20 = I q ∧ SH w0 [] w' [⟨g17, 3, (jcl (jan n l s) (List.replicate n 0) q).map I⟩, ⟨gB, 159, best.flatMap jaX⟩, ⟨gF, 4, found.map Bo⟩]) (n) (⟨0, by omega, rfl, by rw [jde]; exact H⟩) ?_
 clear H
 rintro k u w ⟨q, hq, h20, H⟩
 refine WP.know (t := 20) h20<|Y.qr<|Y.lt rfl<|Y.z<|Y.q ?_
 refine WP.cond rfl (fun hc4 => ?_) (fun hc4 => ?_)
 ·have hqn : q < n := by simpa using hc4
  have hmx : (jcl (jan n l s) (List.replicate n 0) q).length = n := by rw [jci hml (by omega)]; exact htl
  have hms := jdV (m := List.replicate n (0 : Int)) hml (show q < (jan n l s).length by omega)
  rw [jbG] at hms
  have hT := jb5 hok hR hqn
  obtain ⟨hf1, hf2⟩ := hbf q hqn
  have hfq : fnd found q = found[q]'(by omega) := by simp [fnd, hfl, hqn]
  have hbq : bst best q = (best[q]'(by omega)).secs := by simp [bst, hbl, hqn]
  refine Y.k<|Y.q<|WP.block<|Y.qr<|Y.a rfl<|Y.bz rfl<|Y.qr<|Y.sS rfl<|Y.a rfl<|Y.I rfl ?_
  have hpu : jam ((jcl (jan n l s) (List.replicate n 0) q).map I) (0 + q) [I (-1)] = ((jcl (jan n l s) (List.replicate n 0) q).set q (-1)).map I := by rw [Nat.zero_add, jae]
  refine OPS.store (vs := [I (-1)]) 0 _ rfl rfl rfl (j4 rfl) rfl (cI rfl) rfl rfl H rfl (by simp only [List.length_map, hmx]; omega) ?_
  clear H; intro w H
  simp only [List.set_cons_zero, List.set_cons_succ] at H
  rw [hpu] at H
  refine Y.z<|Y.qr ?_
  obtain ⟨_, _, e1, hfc⟩ := y9 H 2 rfl q (by omega)
  cases e1
  refine Y.sS rfl<|Y.a rfl<|Y.I rfl<|Y.v (Y.c (by assumption) rfl) ?_
  refine Y.z ?_
  refine WP.cond rfl (fun hc7 => ?_) (fun hc7 => ?_)
  ·have hkq : K q = true := by rw [← hf1, hfq]; exact hc7
   have hTq : x9 n l s q = (best[q]'(by omega)).secs := by rw [hT, if_pos hkq, ← hf2 hkq, hbq]
   refine Y.r ?_
   obtain ⟨_, _, e1, b0, b1, _⟩ := jbF jdc H 1 rfl q (by omega)
   cases e1
   refine Y.sS rfl<|Y.a rfl<|Y.sS rfl<|Y.a rfl<|Y.U rfl<|Y.F rfl<|Y.v (Y.c (by assumption) rfl) ?_
   refine Y.I rfl ?_
   have hpu : jam (((jcl (jan n l s) (List.replicate n 0) q).set q (-1)).map I) (0 + q) [I (best[q]'(by omega)).secs] = (jcl (jan n l s) (List.replicate n 0) (q + 1)).map I := by rw [Nat.zero_add, jae, List.set_set, ← hTq, hms]
   refine OPS.store (vs := [I (best[q]'(by omega)).secs]) 0 _ rfl rfl rfl (j4 rfl) rfl (cI rfl) rfl rfl H rfl (by simp only [List.length_map, List.length_set, hmx]; omega) ?_
   clear H; intro w H
   simp only [List.set_cons_zero, List.set_cons_succ] at H
   rw [hpu] at H
   refine Y.z<|Y.r<|Y.P rfl<|Y.a rfl<|Y.z ?_
   exact ⟨Y.ag, k - 1, by omega, q + 1, by omega, rfl, H⟩
  have hkq : K q = false := by rw [← hf1, hfq]; exact hc7
  have hTq : x9 n l s q = -1 := by rw [hT, if_neg (by rw [hkq]; simp)]
  rw [← hTq, hms] at H
  refine Y.k<|Y.r<|Y.P rfl<|Y.a rfl<|Y.z ?_
  exact ⟨Y.ag, k - 1, by omega, q + 1, by omega, rfl, H⟩
 refine WP.exit<|XB.hit<|Y.qr<|Y.sS rfl<|Y.aS rfl<|Y.z ?_
 refine WP.ret ⟨_, rfl, ?_⟩
 have hqn : q = n := by simp at hc4; omega
 have hma : jcl (jan n l s) (List.replicate n 0) n = jan n l s := by
  have h := jdO hml
  rw [htl] at h; exact h
 rw [hqn, hma] at H
 exact ⟨g17, rfl, H.reidx [0] (by decide) rfl⟩
theorem jfe (n k : Int) (A : Option Addr) (l : List Edg) (cap : Nat) (w0 : World) (hz : ja3 w0 A l) :
  Calls Tryz.prog 48 #[.agg #[I n, .slice A l.length cap], I k] w0 fun e w' => ∃ (C : Option Addr) (Lc : List Blk), e = .returned (.tuple #[.slice C (jaq n l k).length (jaq n l k).length, I (jay n l k)]) ∧ jg5 3 I C (jaq n l k) Lc ∧ SH w0 [] w' Lc := by
 have H := SH.refl w0
 refine Calls.ofWP Tryz.func48 rfl Tryz.results48 Tryz.ntmps48 rfl<|Y.qr<|Y.bx (cA rfl) H ?_
 clear H; intro g2 w H
 refine Y.aS rfl<|Y.bz rfl<|Y.qq<|Y.O H 0 rfl<|Y.cl 8 rfl (jgx n A l cap w (hz.sh H)) H ?_
 clear H; intro w H
 refine Y.bz rfl<|Y.qr<|Y.a rfl<|Y.V rfl<|Y.z ?_
 refine WP.cond rfl (fun hc2 => ?_) (fun hc2 => ?_)
 ·refine Y.qr<|Y.a rfl<|Y.aS rfl<|Y.bz rfl ?_
  refine WP.ret ⟨_, rfl, ?_⟩
  have h : jax n l ≠ 0 := by simpa using hc2
  have he : jay n l k = jax n l := by rw [jay, if_pos h]
  have ht : jaq n l k = [] := by rw [jaq, if_neg (by rw [he]; exact h)]
  exact ⟨none, [], by rw [ht, he]; rfl, by rw [ht]; exact jg5.nil, H.reidx [] (by decide) rfl⟩
 have h0 : jax n l = 0 := by simpa using hc2
 refine Y.k<|Y.qq<|Y.O H 0 rfl<|Y.a rfl<|Y.cl 14 rfl (jgd n k _ _ _ _) H ?_
 clear H; intro w H
 refine Y.v (Ev.not rfl)<|Y.z ?_
 refine WP.cond rfl (fun hc4 => ?_) (fun hc4 => ?_)
 ·refine Y.qr<|Y.aS rfl<|Y.bz rfl ?_
  refine WP.ret ⟨_, rfl, ?_⟩
  have hnn : jaV n k = false := by simpa using hc4
  have he : jay n l k = 7 := by rw [jay, if_neg (by simp [h0]), if_neg (by simp [hnn])]
  have ht : jaq n l k = [] := by rw [jaq, if_neg (by rw [he]; decide)]
  exact ⟨none, [], by rw [ht, he]; rfl, by rw [ht]; exact jg5.nil, H.reidx [] (by decide) rfl⟩
 have hnn : jaV n k = true := by simpa using hc4
 have he : jay n l k = 0 := by rw [jay, if_neg (by simp [h0]), if_pos hnn]
 obtain ⟨m, s, rfl, rfl, hsm, hok⟩ := jeY he
 have ht : jaq m l s = jan m l s := by rw [jaq, if_pos he]; simp
 refine Y.k<|Y.qr<|Y.O H 0 rfl<|Y.a rfl<|Y.c2 18 rfl (jiH m s A l cap w hok hsm (hz.sh H)) ?_
 rintro _ w ⟨g, rfl, Hc⟩
 refine ⟨_, rfl, ?_⟩
 replace H := SH.call (L1 := [_]) (Lv := []) H Hc
 clear Hc
 refine Y.aS rfl<|Y.bz rfl ?_
 refine WP.ret ⟨_, rfl, ?_⟩
 exact ⟨some ⟨g, 0, none⟩, _, by rw [he, ht, jau]; rfl, by rw [ht]; exact jg5.mk g _, H.reidx [1] (by decide) rfl⟩
end Go.Proofs.YtgcokllbophkkaaGreat
namespace Go.Proofs.YtgcokllbophkkaaGreat
open Go Go.W Go.RowKit
theorem jgM (n k : Int) (A : Option Addr) (m cap : Nat) (w0 : World) :
  Calls Tryz.prog 84 #[.agg #[I n, .slice A m cap], I k] w0 fun e w' => e = .returned (.bool (jaV n k)) ∧ Below w0.heap.size w0 w' := by
 have H := SH.refl w0
 refine Calls.ofWP Tryz.func84 rfl Tryz.results84 Tryz.ntmps84 rfl<|Y.qr<|Y.bx (cA rfl) H ?_
 clear H; intro g2 w H
 refine Y.aB rfl<|Y.z<|Y.qr<|Y.a rfl<|Y.v (Ev.geq rfl rfl)<|Y.B rfl<|Y.gm rfl<|Y.gf rfl<|Y.yy H 0 rfl<|Y.g rfl rfl (fun hg => Ev.lss (gvE hg rfl) (gvE hg rfl))<|Y.pa rfl<|Y.aB rfl<|Y.z ?_
 refine WP.ret ⟨_, rfl, ?_⟩
 exact ⟨rfl, H.below⟩
theorem jk4 (n : Int) (A : Option Addr) (l : List Edg) (cap : Nat) (w0 : World) (hz : ja3 w0 A l) :
  Calls Tryz.prog 53 #[.agg #[I n, .slice A l.length cap]] w0 fun e w' => e = .returned (I (jax n l)) ∧ Below w0.heap.size w0 w' := by
 have H := SH.refl w0
 refine Calls.ofWP Tryz.func53 rfl Tryz.results53 Tryz.ntmps53 rfl<|Y.qr<|Y.bx (cA rfl) H ?_
 clear H; intro g1 w H
 refine Y.bz rfl<|Y.qq<|Y.W H 0 rfl<|Y.lt rfl<|Y.B rfl<|Y.gf rfl<|Y.yy H 0 rfl<|Y.g rfl rfl (fun hg => Ev.gtr (gvE hg rfl) rfl)<|Y.po rfl<|Y.z ?_
 refine WP.cond rfl (fun hc1 => ?_) (fun hc1 => ?_)
 ·refine Y.qr<|Y.bz rfl ?_
  refine WP.ret ⟨_, rfl, ?_⟩
  exact ⟨by rw [jax, if_pos hc1]; rfl, H.below⟩
 refine Y.k<|Y.qq<|Y.W H 0 rfl<|Y.E rfl<|Y.v (Ev.gtr rfl rfl)<|Y.z ?_
 refine WP.cond rfl (fun hc3 => ?_) (fun hc3 => ?_)
 ·refine Y.qr<|Y.bz rfl ?_
  refine WP.ret ⟨_, rfl, ?_⟩
  exact ⟨by rw [jax, if_neg (by simp [hc1]), if_pos (by simpa using hc3)]; rfl, H.below⟩
 have hl : l.length ≤ 512 := by simp at hc3; omega
 have e0 : jax n l = jbq n l := by rw [jax, if_neg (by simp [hc1]), if_neg (by simpa using hc3)]
 refine Y.k<|Y.qq<|Y.bz rfl<|WP.block<|WP.loop [2, 3, 4, 17, 18, 19, 20, 21, 22, 23, 24, 25, 26, 27, 28, 29, 30, 31, 32, 33, 34, 35, 36, 37, 38, 39, 40, 41, 42, 43, 44, 45, 46, 47, 48] (fun k e w' => ∃ j : Nat, j + k = l.length ∧ e 3 = .int .i64 j ∧ SH w0 [] w' [⟨g1, 24, [I n, .slice A l.length cap]⟩] ∧ ∀ i (hi : i < l.length), i < j → jc6 n l[i] = false ∧ jb9 l[i] = false) (l.length) (⟨0, by omega, rfl, H, fun i _ hi => absurd hi (by omega)⟩) ?_
 clear H
 rintro k u w ⟨j, hk, h3', H, hall⟩
 refine WP.know (t := 3) h3'<|Y.qq<|Y.a rfl<|Y.W H 0 rfl<|Y.E rfl<|Y.lt rfl<|Y.z ?_
 refine WP.cond rfl (fun hc6 => ?_) (fun hc6 => ?_)
 ·have hlt : j < l.length := by simpa using hc6
  obtain ⟨b, o, rfl, hc⟩ := hz j hlt
  have hc' := k7 H hc
  refine Y.k<|Y.q<|WP.block<|Y.qr<|Y.W H 0 rfl<|Y.a rfl<|Y.U rfl<|Y.v (by (change Ev _ _ _ _ (Op.load 85 (Operand.tmp 27)) _; exact Ev.loadN (jah l[j]) (j6 rfl) (j4 rfl) rfl hc'))<|Y.al H rfl rfl ?_
  clear H; intro g4 w H
  refine Y.ss 0 H rfl (cA rfl) rfl ?_
  clear H; intro w H
  refine Y.z<|Y.qq<|Y.O H 1 rfl<|Y.W H 0 rfl<|Y.cl 32 rfl (jgM n l[j].f _ _ _ _) H ?_
  clear H; intro w H
  refine Y.v (Ev.not rfl)<|Y.B rfl<|Y.g rfl rfl (fun hg => Y.o H 1 rfl rfl)<|Y.gf rfl<|Y.yy H 0 rfl<|OPS.gcall0 (f := 84) (jgM n l[j].t _ _ _ _) (fun _ _ h => h) rfl rfl rfl rfl rfl (fun hg => EvC.conv (EvC.func (z7 rfl)) (l2 (gvE hg rfl) (gvE hg rfl))) ?_
  intro w hbc; replace H := H.toBelow hbc
  refine Y.g rfl rfl (fun hg => Ev.not (gvE hg rfl))<|Y.po rfl<|Y.z ?_
  refine WP.cond rfl (fun hc9 => ?_) (fun hc9 => ?_)
  ·refine Y.qr<|Y.bz rfl ?_
   refine WP.ret ⟨_, rfl, ?_⟩
   exact ⟨by rw [e0, ja8 (by omega) hall, List.drop_eq_getElem_cons hlt, jbq, if_pos (show jc6 n l[j] = true from hc9)]; rfl, H.below⟩
  refine Y.k<|Y.qr<|Y.W H 0 rfl<|Y.lt rfl<|Y.B rfl<|Y.gf rfl<|Y.yy H 0 rfl<|Y.g rfl rfl (fun hg => Ev.gtr (gvE hg rfl) rfl)<|Y.po rfl<|Y.z ?_
  refine WP.cond rfl (fun hc11 => ?_) (fun hc11 => ?_)
  ·refine Y.qr<|Y.bz rfl ?_
   refine WP.ret ⟨_, rfl, ?_⟩
   exact ⟨by rw [e0, ja8 (by omega) hall, List.drop_eq_getElem_cons hlt, jbq, if_neg (by rw [show jc6 n l[j] = false from hc9]; simp), if_pos (show jb9 l[j] = true from hc11)]; rfl, H.below⟩
  refine Y.k<|Y.r<|Y.a rfl<|Y.P rfl<|Y.bz rfl ?_
  refine ⟨Y.ag, k - 1, by omega, j + 1, by omega, rfl, H.drop (by simp), fun i hi hij => ?_⟩
  rcases Nat.lt_succ_iff_lt_or_eq.1 hij with h | rfl
  ·exact hall i hi h
  ·exact ⟨hc9, hc11⟩
 refine WP.exit<|XB.hit<|Y.qr<|Y.bz rfl ?_
 refine WP.ret ⟨_, rfl, ?_⟩
 have : j = l.length := by simp at hc6; omega
 subst this
 exact ⟨by rw [e0, ja8 (by omega) hall]; simp [jbq]; rfl, H.below⟩
theorem r8To (n s : Nat) (A : Option Addr) (l : List Edg) (cap : Nat) (K : Nat → Bool) (D : Nat → Int) (w0 : World) (hok : jaL n l) (hs : s < n) (hR : RD (l.map rv) n s K D) (hz : ja3 w0 A l) :
  Calls Tryz.prog 111 #[.agg #[I n, .slice A l.length cap], I s] w0 fun e w' => ∃ (gd ge : Nat) (d ed : List Int), e = .returned (.tuple #[.slice (some ⟨gd, 0, none⟩) n n, .slice (some ⟨ge, 0, none⟩) n n]) ∧ d.length = n ∧ (∀ v, v < n → dAt d v = if K v = true then D v else 1099511627776) ∧ SH w0 [] w' [⟨gd, 3, d.map I⟩, ⟨ge, 3, ed.map I⟩] := by
 have H := SH.refl w0
 have hn2 := hok.n2
 have hll := hok.len
 have hok2 := hok.rv
 refine Calls.ofWP Tryz.func111 rfl Tryz.results111 Tryz.ntmps111 rfl<|Y.qr<|Y.bx (cA rfl) H ?_
 clear H; intro g2 w H
 refine Y.aS rfl<|Y.aS rfl<|Y.z<|Y.q ?_
 refine WP.rheldC [6, 7, 14, 15, 16, 17, 18, 19] (fun u w' => ∃ gd ge : Nat, u 6 = .slice (some ⟨gd, 0, none⟩) n n ∧ u 7 = .slice (some ⟨ge, 0, none⟩) n n ∧ SH w0 [] w' [⟨gd, 3, (List.replicate n 0).map I⟩, ⟨ge, 3, (List.replicate n 0).map I⟩, ⟨g2, 24, [I n, .slice A l.length cap]⟩]) mixed H ?_ ?_
 ·clear H; intro w hbw1 H
  refine Y.tf 0 H rfl<|Y.tl 1 H 0 rfl<|Y.tf 3 H rfl<|Y.tl 4 H 0 rfl ?_
  refine Y.A2 2 5 rfl rfl rfl ?_ ?_
  ·refine Y.M H rfl ?_
   clear H; intro g16 w H
   refine Y.z <| ⟨(H.drop Y.sc), ?_⟩
   refine Y.t 6 (H.drop Y.sc) rfl rfl (fun w H => Ev.asS rfl)<|Y.A1 5 rfl rfl<|Y.M H rfl ?_
   clear H; intro g19 w H
   refine Y.z <| ⟨(H.drop (Y.sc.trans Y.sc)), ?_⟩
   refine Y.t 7 (H.drop (Y.sc.trans Y.sc)) rfl rfl (fun w H => Ev.asS rfl)<|Y.dn ?_
   refine ⟨Y.ag, g16, g19, rfl, rfl, ?_⟩; rw [← jag]; exact H.reidx [1, 0, 2] (by decide) rfl
  ·refine Y.M H rfl ?_
   clear H; intro g19 w H
   refine Y.z <| ⟨(H.drop Y.sc), ?_⟩
   refine Y.A1 2 rfl rfl<|Y.M H rfl ?_
   clear H; intro g16 w H
   refine Y.z <| ⟨(H.drop (Y.sc.trans Y.sc)), ?_⟩
   refine Y.t 6 (H.drop (Y.sc.trans Y.sc)) rfl rfl (fun w H => Ev.asS rfl)<|Y.t 7 (H.drop (Y.sc.trans Y.sc)) rfl rfl (fun w H => Ev.asS rfl)<|Y.dn ?_
   refine ⟨Y.ag, g16, g19, rfl, rfl, ?_⟩; rw [← jag]; exact H
 clear H
 rintro u w ⟨gd, ge, h6, h7, H⟩
 refine WP.know (t := 6) h6 (WP.know (t := 7) h7 ?_)
 have hfl : (List.replicate n (1099511627776 : Int)).length = (List.replicate n (0 : Int)).length := by simp
 refine Y.qq<|Y.bz rfl<|WP.block<|WP.loop [8, 20, 21, 22, 23, 24, 25, 26, 27, 28, 29, 30, 31] (fun k e w' => ∃ v : Nat, v + k = n ∧ e 8 = I v ∧ SH w0 [] w' [⟨gd, 3, (jcl (List.replicate n 1099511627776) (List.replicate n 0) v).map I⟩, ⟨ge, 3, (jcl (List.replicate n 1099511627776) (List.replicate n 0) v).map I⟩, ⟨g2, 24, [I n, .slice A l.length cap]⟩]) (n) (⟨0, by omega, rfl, by rw [jde]; exact H⟩) ?_
 clear H
 rintro k u w ⟨v, hk, h8, H⟩
 refine WP.know (t := 8) h8<|Y.qq<|Y.a rfl<|Y.W H 2 rfl<|Y.lt rfl<|Y.z ?_
 refine WP.cond rfl (fun hc3 => ?_) (fun hc3 => ?_)
 ·have hvn : v < n := by simp at hc3; omega
  have hml : (jcl (List.replicate n (1099511627776 : Int)) (List.replicate n 0) v).length = n := by rw [jci hfl (by simp; omega)]; simp
  have hms := jdV (m := List.replicate n (0 : Int)) hfl (show v < (List.replicate n (1099511627776 : Int)).length by simpa using hvn)
  rw [List.getElem_replicate] at hms
  have hpu : jam ((jcl (List.replicate n (1099511627776 : Int)) (List.replicate n 0) v).map I) (0 + v) [I 1099511627776] = (jcl (List.replicate n 1099511627776) (List.replicate n 0) (v + 1)).map I := by rw [Nat.zero_add, jae, hms]
  refine Y.k<|Y.q<|WP.block<|Y.r<|Y.sS rfl<|Y.a rfl<|Y.sS rfl<|Y.a rfl<|Y.I rfl<|OPS.store (vs := [I 1099511627776]) 0 _ rfl rfl rfl (j4 rfl) rfl (cI rfl) rfl rfl H rfl (by simp only [List.length_map, hml]; omega) ?_
  clear H; intro w H
  simp only [List.set_cons_zero, List.set_cons_succ] at H
  rw [hpu] at H
  refine Y.I rfl<|OPS.store (vs := [I 1099511627776]) 1 _ rfl rfl rfl (j4 rfl) rfl (cI rfl) rfl rfl H rfl (by simp only [List.length_map, hml]; omega) ?_
  clear H; intro w H
  simp only [List.set_cons_zero, List.set_cons_succ] at H
  rw [hpu] at H
  refine Y.z<|Y.r<|Y.a rfl<|Y.P rfl<|Y.bz rfl ?_
  exact ⟨Y.ag, k - 1, by omega, v + 1, by omega, rfl, H⟩
 have hvn : v = n := by simp at hc3; omega
 have hma : jcl (List.replicate n (1099511627776 : Int)) (List.replicate n 0) n = List.replicate n 1099511627776 := by
  have h := jdO hfl
  rw [List.length_replicate] at h; exact h
 rw [hvn, hma] at H
 have hpu : jam ((List.replicate n (1099511627776 : Int)).map I) (0 + s) [I 0] = ((List.replicate n 1099511627776).set s 0).map I := by rw [Nat.zero_add, jae]
 refine WP.exit<|XB.hit<|Y.qr<|Y.sS rfl<|Y.a rfl<|Y.sS rfl<|Y.a rfl<|Y.I rfl<|OPS.store (vs := [I 0]) 0 _ rfl rfl rfl (j4 rfl) rfl (cI rfl) rfl rfl H rfl (by simp; omega) ?_
 clear H; intro w H
 simp only [List.set_cons_zero, List.set_cons_succ] at H
 rw [hpu] at H
 refine Y.I rfl<|OPS.store (vs := [I 0]) 1 _ rfl rfl rfl (j4 rfl) rfl (cI rfl) rfl rfl H rfl (by simp; omega) ?_
 clear H; intro w H
 simp only [List.set_cons_zero, List.set_cons_succ] at H
 rw [hpu] at H
 refine Y.z<|Y.qq<|Y.bz rfl<|WP.block<|WP.loop [9, 10, 11, 12, 13, 38, 39, 40, 41, 42, 43, 44, 45, 46, 47, 48, 49, 50, 51, 52, 53, 54, 55, 56, 57, 58, 59, 60, 61, 62, 63, 64, 65, 66, 67, 68, 69, 70, 71, 72, 73, 74, 75, 76, 77, 78, 79, 80, 81, 82, 83, 84, 85, 86, 87, 88, 89, 90, 91, 92, 93, 94, 95, 96, 97, 98, 99, 100, 101, 102, 103, 104, 105, 106, 107, 108, 109, 110, 111, 112] (fun k e w' => ∃ (r : Nat) (d ed : List Int), r + k = n ∧ e 9 = I r ∧ SH w0 [] w' [⟨gd, 3, d.map I⟩, ⟨ge, 3, ed.map I⟩, ⟨g2, 24, [I n, .slice A l.length cap]⟩] ∧ BFR (l.map rv) n s K D r (fun i => i < 0) d ed (1000 * r)) (n) (⟨0, _, _, by omega, rfl, H, (BFR.init hR hok2 hs).mono (fun _ _ h => absurd h (by omega)) (by omega)⟩) ?_
 clear H
 rintro k u w ⟨r, d, ed, hk, h9, H, hB⟩
 refine WP.know (t := 9) h9<|Y.qq<|Y.a rfl<|Y.W H 2 rfl<|Y.lt rfl<|Y.z ?_
 refine WP.cond rfl (fun hc8 => ?_) (fun hc8 => ?_)
 ·have hrn : r < n := by simp at hc8; omega
  refine Y.k<|Y.q<|WP.block<|Y.qr<|Y.bz rfl<|WP.block<|WP.loop [10, 11, 12, 13, 44, 45, 46, 47, 48, 49, 50, 51, 52, 53, 54, 55, 56, 57, 58, 59, 60, 61, 62, 63, 64, 65, 66, 67, 68, 69, 70, 71, 72, 73, 74, 75, 76, 77, 78, 79, 80, 81, 82, 83, 84, 85, 86, 87, 88, 89, 90, 91, 92, 93, 94, 95, 96, 97, 98, 99, 100, 101, 102, 103, 104, 105, 106, 107, 108, 109, 110, 111, 112] (fun k2 e w' => ∃ (j : Nat) (d ed : List Int), j + k2 = l.length ∧ e 10 = I j ∧ SH w0 [] w' [⟨gd, 3, d.map I⟩, ⟨ge, 3, ed.map I⟩, ⟨g2, 24, [I n, .slice A l.length cap]⟩] ∧ BFR (l.map rv) n s K D r (fun i => i < j) d ed (1000 * r + j)) (l.length) (⟨0, d, ed, by omega, rfl, H, hB.mono (fun _ _ h => h) (by omega)⟩) ?_
  clear H hB
  rintro k2 u2 w ⟨j, d, ed, hk2, h10, H, hB⟩
  refine WP.know (t := 10) h10<|Y.qq<|Y.a rfl<|Y.W H 2 rfl<|Y.E rfl<|Y.lt rfl<|Y.z ?_
  refine WP.cond rfl (fun hc11 => ?_) (fun hc11 => ?_)
  ·have hlt : j < l.length := by simp at hc11; omega
   obtain ⟨b, o, rfl, hc⟩ := hz j hlt
   have hc' := k7 H hc
   have hnd := hok.nodes l[j] (List.getElem_mem hlt)
   have hsc := hok.secs l[j] (List.getElem_mem hlt)
   obtain ⟨a, hfa⟩ := Int.eq_ofNat_of_zero_le hnd.1.1
   obtain ⟨b', htb⟩ := Int.eq_ofNat_of_zero_le hnd.2.1
   have ham : a < n := by omega
   have hbm : b' < n := by omega
   have hEd : jb3 (l.map rv) j b' a l[j].secs := ⟨by simpa using hlt, by simp [rv, htb], by simp [rv, hfa], by simp [rv]⟩
   have hdl := hB.dlen
   have hel := hB.elen
   have hda : dAt d a = d[a]'(by omega) := by simp [dAt, hdl, ham]
   have hdb : dAt d b' = d[b']'(by omega) := by simp [dAt, hdl, hbm]
   have hea : dAt ed a = ed[a]'(by omega) := by simp [dAt, hel, ham]
   have heb : dAt ed b' = ed[b']'(by omega) := by simp [dAt, hel, hbm]
   have hbd : ∀ v, v < n → 0 ≤ dAt d v ∧ dAt d v ≤ 1099511627776 := fun v hv => by
    cases hk : K v with
    | true => have h1 := hB.lo v hv hk; have h2 := hR.nn v hv hk; omega
    | false => rw [hB.unk v hv hk]; omega
   have hba := hbd a ham
   have hbb := hbd b' hbm
   have hebb := hB.ebd b' hbm
   rw [hda] at hba
   rw [hdb] at hbb
   rw [heb] at hebb
   refine Y.k<|Y.q<|WP.block<|Y.qr<|Y.W H 2 rfl<|Y.a rfl<|Y.U rfl<|Y.v (by (change Ev _ _ _ _ (Op.load 85 (Operand.tmp 54)) _; exact Ev.loadN (jah l[j]) (j6 rfl) (j4 rfl) rfl hc'))<|Y.al H rfl rfl ?_
   clear H; intro g11 w H
   refine Y.ss 0 H rfl (cA rfl) rfl ?_
   clear H; intro w H
   refine Y.z<|Y.q ?_
   rw [show jah l[j] = [I a, I b', I l[j].secs] from by unfold jah; rw [hfa, htb]] at H
   refine WP.rstill mixed (by kernel_rfl) H ?_
   clear H; intro w hbw14 H
   have hxb := (y9 H 1 rfl).atK (show b' < d.length by omega)
   have hyb := (y9 H 2 rfl).atK (show b' < ed.length by omega)
   refine Y.sS rfl<|Y.W H 0 rfl<|Y.I rfl<|Y.v (Y.c (by assumption) rfl) ?_
   refine Y.W H 0 rfl<|Y.P rfl<|Y.sS rfl<|Y.W H 0 rfl<|Y.I rfl<|Y.v (Y.c (by assumption) rfl) ?_
   refine Y.P rfl<|Y.b rfl<|Y.b rfl<|OPS.nil_s<|Y.q ?_
   clear hxb hyb
   have hxa := (y9 H 1 rfl).atK (show a < d.length by omega)
   have hxb := (y9 H 1 rfl).atK (show b' < d.length by omega)
   have hya := (y9 H 2 rfl).atK (show a < ed.length by omega)
   refine Y.r<|Y.sS rfl<|Y.W H 0 rfl<|Y.I rfl<|Y.v (Y.c (by assumption) rfl) ?_
   refine Y.lt rfl<|Y.B rfl<|Y.gm rfl<|Y.g rfl rfl (fun hg => Ev.mvS rfl)<|Y.gf rfl<|Y.yy H 0 rfl<|Y.g rfl rfl (fun hg => Ev.indexAddr1 (x7 rfl) (j4 rfl) (gvE hg rfl) (gvE hg rfl) rfl (by omega))<|Y.g rfl rfl (fun hg => Ev.load1 (j6 rfl) (gvE hg rfl) (by assumption)) ?_
   refine Y.g rfl rfl (fun hg => Ev.lss (gvE hg rfl) (gvE hg rfl))<|Y.g rfl rfl (fun hg => Ev.mvB (gvE hg rfl))<|OPS.gvalN rfl rfl (GB.g rfl) rfl rfl (fun hg => Ev.mvI rfl)<|OPS.gvalN rfl rfl (GB.g rfl) rfl rfl (fun hg => Ev.mvS rfl)<|OPS.gvalN rfl rfl (GB.g rfl) rfl rfl (fun hg => Ev.fieldAddr (jaf rfl) rfl)<|OPS.gvalN rfl rfl (GB.g rfl) rfl rfl (fun hg => Ev.load1 (j6 rfl) (gvE hg rfl) (H.ldL 0 rfl _ rfl))<|OPS.gvalN rfl rfl (GB.g rfl) rfl rfl (fun hg => (Ev.indexAddr1 (x7 rfl) (j4 rfl) (gvE hg rfl) (gvE hg rfl) rfl (by omega)))<|OPS.gvalN rfl rfl (GB.g rfl) rfl rfl (fun hg => Ev.load1 (j6 rfl) (gvE hg rfl) (by assumption)) ?_
   refine OPS.gvalN rfl rfl (GB.g rfl) rfl rfl (fun hg => Ev.eql (gvE hg rfl) (gvE hg rfl))<|OPS.gvalN rfl rfl (GB.g rfl) rfl rfl (fun hg => Ev.mvB (gvE hg rfl))<|OPS.gvalN rfl rfl (GB.g rfl) rfl rfl (fun hg => Ev.mvI rfl)<|OPS.gvalN rfl rfl (GB.g rfl) rfl rfl (fun hg => Ev.mvS rfl)<|OPS.gvalN rfl rfl (GB.g rfl) rfl rfl (fun hg => Ev.fieldAddr (jaf rfl) rfl)<|OPS.gvalN rfl rfl (GB.g rfl) rfl rfl (fun hg => Ev.load1 (j6 rfl) (gvE hg rfl) (H.ldL 0 rfl _ rfl))<|OPS.gvalN rfl rfl (GB.g rfl) rfl rfl (fun hg => (Ev.indexAddr1 (x7 rfl) (j4 rfl) (gvE hg rfl) (gvE hg rfl) rfl (by omega)))<|OPS.gvalN rfl rfl (GB.g rfl) rfl rfl (fun hg => Ev.load1 (j6 rfl) (gvE hg rfl) (by assumption)) ?_
   refine OPS.gvalN rfl rfl (GB.g rfl) rfl rfl (fun hg => Ev.lss (gvE hg rfl) (gvE hg rfl))<|OPS.gvalN rfl rfl (GB.g rfl) rfl rfl (fun hg => (Ev.pickAnd2 (beqT hg) (gvE hg rfl) rfl rfl))<|Y.g rfl rfl (fun hg => Ev.pickOr2 (beqT hg) (gvE hg rfl) rfl rfl)<|Y.pa rfl<|Y.z ?_
   refine WP.cond rfl (fun hc15 => ?_) (fun hc15 => ?_)
   ·have hcond : d[b'] < 1099511627776 ∧ d[b'] + l[j].secs ≤ d[a] := by
     simp only [Bool.and_eq_true, Bool.or_eq_true, decide_eq_true_eq] at hc15
     omega
    have hB2 := hB.relax hR hok2 hEd hbm ham (by rw [hdb]; exact hcond.1) (by rw [hdb, hda]; exact hcond.2)
    rw [hdb, heb] at hB2
    have Hf := H
    replace H := H.reidx (L' := [⟨g11, 85, [I a, I b', I l[j].secs]⟩, ⟨g2, 24, [I n, .slice (some ⟨b, o, none⟩) l.length cap]⟩]) [0, 3] (by decide) rfl
    have hpu1 : jam (d.map I) (0 + a) [I (d[b'] + l[j].secs)] = (d.set a (d[b'] + l[j].secs)).map I := by rw [Nat.zero_add, jae]
    have hpu2 : jam (ed.map I) (0 + a) [I (ed[b'] + 1)] = (ed.set a (ed[b'] + 1)).map I := by rw [Nat.zero_add, jae]
    refine WP.rheldC [103, 104, 105, 106, 107, 108, 109, 110, 111, 112] (fun _ w' => SH w0 [] w' [⟨g11, 85, [I a, I b', I l[j].secs]⟩, ⟨gd, 3, (d.set a (d[b'] + l[j].secs)).map I⟩, ⟨ge, 3, (ed.set a (ed[b'] + 1)).map I⟩, ⟨g2, 24, [I n, .slice (some ⟨b, o, none⟩) l.length cap]⟩]) mixed H ?_ ?_
    ·clear H; intro w hbw16 H
     refine Y.t 0 H rfl rfl (fun w H => Ev.mvS rfl)<|Y.tf 1 H rfl<|Y.tl 2 H 0 rfl<|Y.t 3 H rfl rfl (fun w H => Ev.mvS rfl)<|Y.tf 4 H rfl<|Y.tl 5 H 0 rfl<|Y.t 6 H rfl rfl (fun w H => Y.m rfl)<|Y.t 7 H rfl rfl (fun w H => Y.m rfl)<|Y.t 8 H rfl rfl (fun w H => Y.x rfl rfl rfl rfl)<|Y.A1 9 rfl rfl ?_
     try replace Hf := Hf.toBelow hbw16
     refine OPS.store (vs := [I (d[b'] + l[j].secs)]) 1 _ rfl rfl rfl (j4 rfl) rfl (cI rfl) rfl rfl Hf rfl (by simp only [List.length_map]; omega) ?_
     clear H Hf; intro w Hf
     simp only [List.set_cons_zero, List.set_cons_succ] at Hf
     rw [hpu1] at Hf
     have H := Hf.reidx (L' := [⟨g11, 85, [I a, I b', I l[j].secs]⟩, ⟨g2, 24, [I n, .slice (some ⟨b, o, none⟩) l.length cap]⟩]) [0, 3] (by decide) rfl
     refine Y.z <| ⟨(H), ?_⟩
     refine Y.t 10 H rfl rfl (fun w H => Y.x rfl rfl rfl rfl)<|Y.A1 11 rfl rfl ?_
     try replace Hf := Hf.toBelow hbw16
     refine OPS.store (vs := [I (ed[b'] + 1)]) 2 _ rfl rfl rfl (j4 rfl) rfl (cI rfl) rfl rfl Hf rfl (by simp only [List.length_map]; omega) ?_
     clear H Hf; intro w Hf
     simp only [List.set_cons_zero, List.set_cons_succ] at Hf
     rw [hpu2] at Hf
     have H := Hf.reidx (L' := [⟨g11, 85, [I a, I b', I l[j].secs]⟩, ⟨g2, 24, [I n, .slice (some ⟨b, o, none⟩) l.length cap]⟩]) [0, 3] (by decide) rfl
     refine Y.z <| ⟨(H), ?_⟩
     refine Y.dn ?_
     exact ⟨Y.ag, Hf⟩
    clear H
    rintro u4 w H
    have hnx : ∃ (d ed : List Int), SH w0 [] w [⟨gd, 3, d.map I⟩, ⟨ge, 3, ed.map I⟩, ⟨g2, 24, [I n, .slice (some ⟨b, o, none⟩) l.length cap]⟩] ∧ BFR (l.map rv) n s K D r (fun i => i < j + 1) d ed (1000 * r + (j + 1 : Nat)) :=
     ⟨_, _, H.drop Y.sc, hB2.mono (fun i _ q => by omega) (by omega)⟩
    refine Y.r<|Y.a rfl<|Y.P rfl<|Y.bz rfl ?_
    obtain ⟨d', ed', H', hB'⟩ := hnx
    exact ⟨Y.ag, k2 - 1, by omega, j + 1, d', ed', by omega, rfl, H', hB'⟩
   have hno : ¬ (dAt d b' < 1099511627776 ∧ dAt d b' + l[j].secs < dAt d a) := by
    rw [hda, hdb]
    rintro ⟨q1, q2⟩
    simp [q1, q2] at hc15
   have hB2 := hB.keep hR hok2 hEd hno
   have hnx : ∃ (d ed : List Int), SH w0 [] w [⟨gd, 3, d.map I⟩, ⟨ge, 3, ed.map I⟩, ⟨g2, 24, [I n, .slice (some ⟨b, o, none⟩) l.length cap]⟩] ∧ BFR (l.map rv) n s K D r (fun i => i < j + 1) d ed (1000 * r + (j + 1 : Nat)) :=
    ⟨d, ed, H.drop Y.sc, hB2.mono (fun i _ q => by omega) (by omega)⟩
   refine Y.k<|Y.r<|Y.a rfl<|Y.P rfl<|Y.bz rfl ?_
   obtain ⟨d', ed', H', hB'⟩ := hnx
   exact ⟨Y.ag, k2 - 1, by omega, j + 1, d', ed', by omega, rfl, H', hB'⟩
  have hjl : j = l.length := by simp at hc11; omega
  subst hjl
  refine WP.exit<|XB.hit<|Y.r<|Y.a rfl<|Y.P rfl<|Y.bz rfl ?_
  exact ⟨Y.ag, k - 1, by omega, r + 1, d, ed, by omega, rfl, H, (BFR.round (by rw [List.length_map]; exact hB) hR hok2 hs).mono (fun _ _ h => h) (by omega)⟩
 refine WP.exit<|XB.hit<|Y.qr<|Y.sS rfl<|Y.sS rfl<|Y.aS rfl<|Y.aS rfl<|Y.z ?_
 refine WP.ret ⟨_, rfl, ?_⟩
 have hrn : n ≤ r := by simp at hc8; omega
 exact ⟨gd, ge, d, ed, rfl, hB.dlen, hB.done hrn, H.drop ((List.Sublist.cons_cons _ (List.Sublist.cons_cons _ Y.sn)))⟩
end Go.Proofs.YtgcokllbophkkaaGreat
namespace Go.Proofs.YtgcokllbophkkaaGreat
open Go Go.W Go.RowKit
def inB (n lo hi : Int) : Bool := decide (lo ≤ n) && decide (n ≤ hi)
theorem jc7 (n lo hi : Int) (w0 : World) :
  Calls Tryz.prog 45 #[I n, I lo, I hi] w0 fun e w' => e = .returned (.bool (inB n lo hi)) ∧ Below w0.heap.size w0 w' := by
 have H := SH.refl w0
 refine Calls.ofWP Tryz.func45 rfl Tryz.results45 Tryz.ntmps45 rfl<|Y.qr<|Y.aB rfl<|Y.z<|Y.qr<|Y.a rfl<|Y.a rfl<|Y.v (Ev.leq rfl rfl)<|Y.B rfl<|Y.gm rfl<|Y.gm rfl<|Y.g rfl rfl (fun hg => Ev.leq (gvE hg rfl) (gvE hg rfl))<|Y.pa rfl<|Y.aB rfl<|Y.z ?_
 refine WP.ret ⟨_, rfl, ?_⟩
 exact ⟨rfl, H.below⟩
theorem slIndex (A : Option Addr) (l : List Int) (cap : Nat) (x : Int) (w0 : World) (hz : k9 w0 A l) (hl : l.length ≤ maxLen) :
  Calls Tryz.prog 52 #[.slice A l.length cap, I x] w0 fun e w' => ∃ r : Int, e = .returned (I r) ∧ (0 ≤ r ↔ x ∈ l) ∧ Below w0.heap.size w0 w' := by
 have H := SH.refl w0
 have hl' : l.length ≤ 9223372036854775807 := by unfold maxLen at hl; omega
 refine Calls.ofWP Tryz.func52 rfl Tryz.results52 Tryz.ntmps52 rfl<|Y.qr<|Y.bz rfl<|Y.qq<|Y.sS rfl<|Y.E rfl<|Y.a rfl<|Y.z<|WP.block<|WP.loop [4, 5, 8, 9, 10, 11, 12, 13, 14, 15, 16, 17, 18] (fun k e w' => ∃ j : Nat, j + k = l.length ∧ e 8 = I j ∧ SH w0 [] w' [] ∧ ∀ i (h : i < l.length), i < j → l[i] ≠ x) (l.length) (⟨0, by omega, rfl, H, fun i _ hi => absurd hi (by omega)⟩) ?_
 clear H
 rintro k u w ⟨j, hk, h8, H, hall⟩
 refine WP.know (t := 8) h8<|Y.qr<|Y.lt rfl<|Y.z<|Y.q ?_
 refine WP.cond rfl (fun hc2 => ?_) (fun hc2 => ?_)
 ·have hlt : j < l.length := by simpa using hc2
  obtain ⟨b, o, rfl, hx⟩ := hz j hlt
  refine Y.k<|Y.q<|WP.block<|Y.qr<|Y.a rfl<|Y.bz rfl<|Y.qr<|Y.a rfl<|Y.sS rfl<|Y.a rfl<|Y.I rfl<|Y.v (Y.c (H.ld0 (by assumption)) rfl) ?_
  refine Y.v (Ev.eql rfl rfl)<|Y.z ?_
  refine WP.cond rfl (fun hc4 => ?_) (fun hc4 => ?_)
  ·refine Y.qr<|Y.a rfl<|Y.bz rfl ?_
   refine WP.ret ⟨_, rfl, ?_⟩
   have he : x = l[j] := by simpa using hc4
   exact ⟨j, rfl, ⟨fun _ => by rw [he]; exact List.getElem_mem hlt, fun _ => by omega⟩, H.below⟩
  refine Y.k<|Y.r<|Y.P rfl<|Y.a rfl<|Y.z ?_
  refine ⟨Y.ag, k - 1, by omega, j + 1, by omega, rfl, H, fun i hi hij => ?_⟩
  rcases Nat.lt_succ_iff_lt_or_eq.1 hij with h | rfl
  ·exact hall i hi h
  ·have : ¬ x = l[i] := by simpa using hc4
   exact fun h => this h.symm
 refine WP.exit<|XB.hit<|Y.qr<|Y.bz rfl ?_
 refine WP.ret ⟨_, rfl, ?_⟩
 refine ⟨-1, rfl, ⟨fun h => absurd h (by omega), fun h => ?_⟩, H.below⟩
 obtain ⟨i, hi, he⟩ := List.mem_iff_getElem.1 h
 exact absurd he (hall i hi (by simp at hc2; omega))
theorem jdk (A : Option Addr) (l : List Int) (cap : Nat) (x : Int) (w0 : World) (hz : k9 w0 A l) (hl : l.length ≤ maxLen) :
  Calls Tryz.prog 30 #[.slice A l.length cap, I x] w0 fun e w' => e = .returned (.bool (decide (x ∈ l))) ∧ Below w0.heap.size w0 w' := by
 have H := SH.refl w0
 refine Calls.ofWP Tryz.func30 rfl Tryz.results30 Tryz.ntmps30 rfl<|Y.qr<|Y.aB rfl<|Y.z<|Y.qr<|Y.sS rfl<|Y.a rfl<|Y.c2 7 rfl (slIndex A l cap x w0 hz hl) ?_
 rintro _ w ⟨r, rfl, hr, hb⟩
 refine ⟨_, rfl, ?_⟩
 replace H := H.toBelow hb; clear hb
 refine Y.v (Ev.geq rfl rfl)<|Y.aB rfl<|Y.z ?_
 refine WP.ret ⟨_, rfl, ?_⟩
 exact ⟨by rw [decide_eq_decide.2 hr.symm]; rfl, H.below⟩
structure z6 where
 node : Int
 move : Int
instance : Inhabited z6 := ⟨⟨0, 0⟩⟩
def j8 (x : z6) : List Value := [I x.node, I x.move]
theorem jdQ (x : z6) : (j8 x).length = 2 := rfl
theorem jgy (A : Option Addr) (l : List z6) (cap : Nat) (f : Nat) (caps : List Value) (p : z6 → Bool) (w0 : World) (hz : k8 2 j8 w0 A l) (hl : l.length ≤ maxLen) (hfun : jhU f = true)
  (hf : ∀ x ∈ l, ∀ w, Below w0.heap.size w0 w → Calls Tryz.prog f ([Value.agg (j8 x).toArray] ++ caps).toArray w fun e w' => e = .returned (.bool (p x)) ∧ Below w.heap.size w w') :
  Calls Tryz.prog 79 #[.slice A l.length cap, .func (.func f) #[] caps.toArray] w0 fun e w' => ∃ r : Int, e = .returned (I r) ∧ (0 ≤ r ↔ l.any p = true) ∧ Below w0.heap.size w0 w' := by
 have H := SH.refl w0
 have hl' : l.length ≤ 9223372036854775807 := by unfold maxLen at hl; omega
 refine Calls.ofWP Tryz.func79 rfl Tryz.results79 Tryz.ntmps79 rfl<|Y.qr<|Y.bz rfl<|Y.qq<|Y.sS rfl<|Y.E rfl<|Y.a rfl<|Y.z<|WP.block<|WP.loop [4, 5, 8, 9, 10, 11, 12, 13, 14, 15, 16, 17, 18] (fun k e w' => ∃ j : Nat, j + k = l.length ∧ e 8 = I j ∧ SH w0 [] w' [] ∧ ∀ i (h : i < l.length), i < j → p l[i] = false) (l.length) (⟨0, by omega, rfl, H, fun i _ hi => absurd hi (by omega)⟩) ?_
 clear H
 rintro k u w ⟨j, hk, h8, H, hall⟩
 refine WP.know (t := 8) h8<|Y.qr<|Y.lt rfl<|Y.z<|Y.q ?_
 refine WP.cond rfl (fun hc2 => ?_) (fun hc2 => ?_)
 ·have hlt : j < l.length := by simpa using hc2
  obtain ⟨b, o, rfl, hx⟩ := hz j hlt
  refine Y.k<|Y.q<|WP.block<|Y.qr<|Y.a rfl<|Y.bz rfl<|Y.qr<|Y.v (Ev.mvF rfl)<|Y.sS rfl<|Y.a rfl<|Y.U rfl<|Y.v (by (change Ev _ _ _ _ (Op.load 68 (Operand.tmp 14)) _; exact Ev.loadN (j8 l[j]) (j6 rfl) (j4 rfl) rfl (k7 H hx)))<|OPS.call (d := some 16) rfl rfl rfl (EvC.clos rfl (z7 (by assumption))) (hf l[j] (List.getElem_mem hlt) w H.below) ?_
  rintro _ w ⟨rfl, hb⟩
  refine ⟨_, rfl, ?_⟩
  replace H := H.toBelow hb; clear hb
  refine Y.z ?_
  refine WP.cond rfl (fun hc4 => ?_) (fun hc4 => ?_)
  ·refine Y.qr<|Y.a rfl<|Y.bz rfl ?_
   refine WP.ret ⟨_, rfl, ?_⟩
   exact ⟨j, rfl, ⟨fun _ => List.any_eq_true.2 ⟨l[j], List.getElem_mem hlt, hc4⟩, fun _ => by omega⟩, H.below⟩
  refine Y.k<|Y.r<|Y.P rfl<|Y.a rfl<|Y.z ?_
  refine ⟨Y.ag, k - 1, by omega, j + 1, by omega, rfl, H, fun i hi hij => ?_⟩
  rcases Nat.lt_succ_iff_lt_or_eq.1 hij with h | rfl
  ·exact hall i hi h
  ·exact hc4
 refine WP.exit<|XB.hit<|Y.qr<|Y.bz rfl ?_
 refine WP.ret ⟨_, rfl, ?_⟩
 refine ⟨-1, rfl, ⟨fun h => absurd h (by omega), fun h => ?_⟩, H.below⟩
 obtain ⟨x, hx, he⟩ := List.any_eq_true.1 h
 obtain ⟨i, hi, rfl⟩ := List.mem_iff_getElem.1 hx
 rw [hall i hi (by simp at hc2; omega)] at he; cases he
theorem jfl (A : Option Addr) (l : List z6) (cap : Nat) (f : Nat) (caps : List Value) (p : z6 → Bool) (w0 : World) (hz : k8 2 j8 w0 A l) (hl : l.length ≤ maxLen) (hfun : jhU f = true)
  (hf : ∀ x ∈ l, ∀ w, Below w0.heap.size w0 w → Calls Tryz.prog f ([Value.agg (j8 x).toArray] ++ caps).toArray w fun e w' => e = .returned (.bool (p x)) ∧ Below w.heap.size w w') :
  Calls Tryz.prog 46 #[.slice A l.length cap, .func (.func f) #[] caps.toArray] w0 fun e w' => e = .returned (.bool (l.any p)) ∧ Below w0.heap.size w0 w' := by
 have H := SH.refl w0
 refine Calls.ofWP Tryz.func46 rfl Tryz.results46 Tryz.ntmps46 rfl<|Y.qr<|Y.aB rfl<|Y.z<|Y.qr<|Y.sS rfl<|Y.v (Ev.mvF rfl)<|Y.c2 7 rfl (jgy A l cap f caps p w0 hz hl hfun hf) ?_
 rintro _ w ⟨r, rfl, hr, hb⟩
 refine ⟨_, rfl, ?_⟩
 replace H := H.toBelow hb; clear hb
 refine Y.v (Ev.geq rfl rfl)<|Y.aB rfl<|Y.z ?_
 refine WP.ret ⟨_, rfl, ?_⟩
 have : l.any p = decide (0 ≤ r) := by
  cases h : l.any p with
  | true => exact (decide_eq_true (hr.2 h)).symm
  | false => exact (decide_eq_false fun q => by rw [hr.1 q] at h; cases h).symm
 exact ⟨by rw [this]; rfl, H.below⟩
theorem jgW (A : Option Addr) (l : List Int) (cap : Nat) (f : Nat) (caps : List Value) (p : Int → Bool) (w0 : World) (hz : k9 w0 A l) (hl : l.length ≤ maxLen) (hfun : jhU f = true)
  (hf : ∀ x ∈ l, ∀ w, Below w0.heap.size w0 w → Calls Tryz.prog f ([(I x : Value)] ++ caps).toArray w fun e w' => e = .returned (.bool (p x)) ∧ Below w.heap.size w w') :
  Calls Tryz.prog 51 #[.slice A l.length cap, .func (.func f) #[] caps.toArray] w0 fun e w' => ∃ r : Int, e = .returned (I r) ∧ (0 ≤ r ↔ l.any p = true) ∧ Below w0.heap.size w0 w' := by
 have H := SH.refl w0
 have hl' : l.length ≤ 9223372036854775807 := by unfold maxLen at hl; omega
 refine Calls.ofWP Tryz.func51 rfl Tryz.results51 Tryz.ntmps51 rfl<|Y.qr<|Y.bz rfl<|Y.qq<|Y.sS rfl<|Y.E rfl<|Y.a rfl<|Y.z<|WP.block<|WP.loop [4, 5, 8, 9, 10, 11, 12, 13, 14, 15, 16, 17, 18] (fun k e w' => ∃ j : Nat, j + k = l.length ∧ e 8 = I j ∧ SH w0 [] w' [] ∧ ∀ i (h : i < l.length), i < j → p l[i] = false) (l.length) (⟨0, by omega, rfl, H, fun i _ hi => absurd hi (by omega)⟩) ?_
 clear H
 rintro k u w ⟨j, hk, h8, H, hall⟩
 refine WP.know (t := 8) h8<|Y.qr<|Y.lt rfl<|Y.z<|Y.q ?_
 refine WP.cond rfl (fun hc2 => ?_) (fun hc2 => ?_)
 ·have hlt : j < l.length := by simpa using hc2
  obtain ⟨b, o, rfl, hx⟩ := hz j hlt
  refine Y.k<|Y.q<|WP.block<|Y.qr<|Y.a rfl<|Y.bz rfl<|Y.qr<|Y.v (Ev.mvF rfl)<|Y.sS rfl<|Y.a rfl<|Y.I rfl<|Y.v (Y.c (H.ld0 (by assumption)) rfl) ?_
  refine OPS.call (d := some 16) rfl rfl rfl (EvC.clos rfl (z7 (by assumption))) (hf l[j] (List.getElem_mem hlt) w H.below) ?_
  rintro _ w ⟨rfl, hb⟩
  refine ⟨_, rfl, ?_⟩
  replace H := H.toBelow hb; clear hb
  refine Y.z ?_
  refine WP.cond rfl (fun hc4 => ?_) (fun hc4 => ?_)
  ·refine Y.qr<|Y.a rfl<|Y.bz rfl ?_
   refine WP.ret ⟨_, rfl, ?_⟩
   exact ⟨j, rfl, ⟨fun _ => List.any_eq_true.2 ⟨l[j], List.getElem_mem hlt, hc4⟩, fun _ => by omega⟩, H.below⟩
  refine Y.k<|Y.r<|Y.P rfl<|Y.a rfl<|Y.z ?_
  refine ⟨Y.ag, k - 1, by omega, j + 1, by omega, rfl, H, fun i hi hij => ?_⟩
  rcases Nat.lt_succ_iff_lt_or_eq.1 hij with h | rfl
  ·exact hall i hi h
  ·exact hc4
 refine WP.exit<|XB.hit<|Y.qr<|Y.bz rfl ?_
 refine WP.ret ⟨_, rfl, ?_⟩
 refine ⟨-1, rfl, ⟨fun h => absurd h (by omega), fun h => ?_⟩, H.below⟩
 obtain ⟨x, hx, he⟩ := List.any_eq_true.1 h
 obtain ⟨i, hi, rfl⟩ := List.mem_iff_getElem.1 hx
 rw [hall i hi (by simp at hc2; omega)] at he; cases he
theorem jc4 (A : Option Addr) (l : List Int) (cap : Nat) (f : Nat) (caps : List Value) (p : Int → Bool) (w0 : World) (hz : k9 w0 A l) (hl : l.length ≤ maxLen) (hfun : jhU f = true)
  (hf : ∀ x ∈ l, ∀ w, Below w0.heap.size w0 w → Calls Tryz.prog f ([(I x : Value)] ++ caps).toArray w fun e w' => e = .returned (.bool (p x)) ∧ Below w.heap.size w w') :
  Calls Tryz.prog 73 #[.slice A l.length cap, .func (.func f) #[] caps.toArray] w0 fun e w' => e = .returned (.bool (l.any p)) ∧ Below w0.heap.size w0 w' := by
 have H := SH.refl w0
 refine Calls.ofWP Tryz.func73 rfl Tryz.results73 Tryz.ntmps73 rfl<|Y.qr<|Y.aB rfl<|Y.z<|Y.qr<|Y.sS rfl<|Y.v (Ev.mvF rfl)<|Y.c2 7 rfl (jgW A l cap f caps p w0 hz hl hfun hf) ?_
 rintro _ w ⟨r, rfl, hr, hb⟩
 refine ⟨_, rfl, ?_⟩
 replace H := H.toBelow hb; clear hb
 refine Y.v (Ev.geq rfl rfl)<|Y.aB rfl<|Y.z ?_
 refine WP.ret ⟨_, rfl, ?_⟩
 have : l.any p = decide (0 ≤ r) := by
  cases h : l.any p with
  | true => exact (decide_eq_true (hr.2 h)).symm
  | false => exact (decide_eq_false fun q => by rw [hr.1 q] at h; cases h).symm
 exact ⟨by rw [this]; rfl, H.below⟩
theorem jip (n : Int) (w0 : World) : Calls Tryz.prog 98 #[I n] w0 fun e w' => e = .returned (.bool false) ∧ Below w0.heap.size w0 w' := by
 have H := SH.refl w0
 refine Calls.ofWP Tryz.func98 rfl Tryz.results98 Tryz.ntmps98 rfl<|Y.qr<|Y.aB rfl<|Y.z<|Y.qr<|Y.a rfl<|Y.a rfl<|Y.V rfl<|Y.aB rfl<|Y.z ?_
 refine WP.ret ⟨_, rfl, ?_⟩
 exact ⟨congrArg (fun b => Ending.returned (Bo b)) (show (!decide (n = n)) = false by simp), H.below⟩
theorem cmpLess (a b : Int) (w0 : World) : Calls Tryz.prog 77 #[I a, I b] w0 fun e w' => e = .returned (.bool (decide (a < b))) ∧ Below w0.heap.size w0 w' := by
 have H := SH.refl w0
 refine Calls.ofWP Tryz.func77 rfl Tryz.results77 Tryz.ntmps77 rfl<|Y.qr<|Y.aB rfl<|Y.z<|Y.qr<|Y.a rfl<|Y.cl 6 rfl (jip a w0) H ?_
 clear H; intro w H
 refine Y.B rfl<|Y.gm rfl<|OPS.gcall0 (f := 98) (jip b w) (fun _ _ h => h) rfl rfl rfl rfl rfl (fun hg => EvC.conv (EvC.func (z7 rfl)) (l1 (gvE hg rfl))) ?_
 intro w hbc; replace H := H.toBelow hbc
 refine Y.g rfl rfl (fun hg => Ev.not (gvE hg rfl))<|Y.pa rfl<|Y.B rfl<|Y.gm rfl<|Y.gm rfl<|Y.g rfl rfl (fun hg => Ev.lss (gvE hg rfl) (gvE hg rfl))<|Y.po rfl<|Y.aB rfl<|Y.z ?_
 refine WP.ret ⟨_, rfl, ?_⟩
 exact ⟨congrArg (fun b => Ending.returned (Bo b)) (show _ = decide (a < b) by simp), H.below⟩
def jbC (l : List Int) : Bool := (List.range (l.length - 1)).all fun i => decide (l.getD i 0 ≤ l.getD (i + 1) 0)
end Go.Proofs.YtgcokllbophkkaaGreat
namespace Go.Proofs.YtgcokllbophkkaaGreat
open Go Go.W Go.RowKit
theorem farAway {n : Nat} {l : List Edg} {s : Nat} {K : Nat → Bool} {D : Nat → Int} (hok : jaL n l) (hR : RD l n s K D) {d : List Int} (hd : d.length = n) (hall : ∀ v, v < n → dAt d v = if K v = true then D v else 1099511627776) {q : Nat} (hq : q < n) :
  (jan n l s)[q]'(by rw [jau]; exact hq) = if d[q]'(by omega) = 1099511627776 then -1 else d[q]'(by omega) := by
 have h1 := hall q hq
 have h2 : dAt d q = d[q]'(by omega) := by simp [dAt, hd, hq]
 rw [jbG, jb5 hok hR hq, ← h2, h1]
 cases hk : K q with
 | true =>
  have := hR.small hok hq hk
  simp only [if_true]
  rw [if_neg (by omega)]
 | false => simp
theorem jhd (n k : Int) (A : Option Addr) (l : List Edg) (cap : Nat) (w0 : World) (hz : ja3 w0 A l) :
  Calls Tryz.prog 85 #[.agg #[I n, .slice A l.length cap], I k] w0 fun e w' => ∃ (C : Option Addr) (Lc : List Blk), e = .returned (.tuple #[.slice C (jaq n l k).length (jaq n l k).length, I (jay n l k)]) ∧ jg5 3 I C (jaq n l k) Lc ∧ SH w0 [] w' Lc := by
 have H := SH.refl w0
 refine Calls.ofWP Tryz.func85 rfl Tryz.results85 Tryz.ntmps85 rfl<|Y.qr<|Y.bx (cA rfl) H ?_
 clear H; intro g2 w H
 refine Y.aS rfl<|Y.bz rfl<|Y.qq<|Y.O H 0 rfl<|Y.cl 13 rfl (jk4 n A l cap w (hz.sh H)) H ?_
 clear H; intro w H
 refine Y.bz rfl<|Y.qr<|Y.a rfl<|Y.V rfl<|Y.z ?_
 refine WP.cond rfl (fun hc2 => ?_) (fun hc2 => ?_)
 ·refine Y.qr<|Y.a rfl<|Y.aS rfl<|Y.bz rfl ?_
  refine WP.ret ⟨_, rfl, ?_⟩
  have h : jax n l ≠ 0 := by simpa using hc2
  have he : jay n l k = jax n l := by rw [jay, if_pos h]
  have ht : jaq n l k = [] := by rw [jaq, if_neg (by rw [he]; exact h)]
  exact ⟨none, [], by rw [ht, he]; rfl, by rw [ht]; exact jg5.nil, H.reidx [] (by decide) rfl⟩
 have h0 : jax n l = 0 := by simpa using hc2
 refine Y.k<|Y.qq<|Y.O H 0 rfl<|Y.a rfl<|Y.cl 19 rfl (jgM n k _ _ _ _) H ?_
 clear H; intro w H
 refine Y.v (Ev.not rfl)<|Y.z ?_
 refine WP.cond rfl (fun hc4 => ?_) (fun hc4 => ?_)
 ·refine Y.qr<|Y.aS rfl<|Y.bz rfl ?_
  refine WP.ret ⟨_, rfl, ?_⟩
  have hnn : jaV n k = false := by simpa using hc4
  have he : jay n l k = 7 := by rw [jay, if_neg (by simp [h0]), if_neg (by simp [hnn])]
  have ht : jaq n l k = [] := by rw [jaq, if_neg (by rw [he]; decide)]
  exact ⟨none, [], by rw [ht, he]; rfl, by rw [ht]; exact jg5.nil, H.reidx [] (by decide) rfl⟩
 have hnn : jaV n k = true := by simpa using hc4
 have he : jay n l k = 0 := by rw [jay, if_neg (by simp [h0]), if_pos hnn]
 obtain ⟨m, s, rfl, rfl, hsm, hok⟩ := jeY he
 have ht : jaq m l s = jan m l s := by rw [jaq, if_pos he]; simp
 have hll := hok.len
 obtain ⟨K, D, hR⟩ := jd0 hok hsm
 refine Y.k<|Y.qr<|Y.W H 0 rfl<|Y.v (Ev.build (jmx rfl))<|Y.al H rfl rfl ?_
 clear H; intro g7 w H
 refine Y.ss 0 H rfl (cA rfl) rfl ?_
 clear H; intro w H
 refine Y.z<|Y.qq<|Y.bz rfl<|WP.block<|WP.loop [8, 24, 25, 26, 27, 28, 29, 30, 31, 32, 33, 34, 35, 36, 37, 38, 39, 40, 41, 42, 43, 44, 45, 46, 47, 48, 49, 50, 51, 52, 53, 54] (fun k e w' => ∃ (j : Nat) (A' : Option Addr) (cap' : Nat) (Lo : List Blk), j + k = l.length ∧ e 8 = I j ∧ OwnS A' cap' j (((l.take j).map rv).flatMap jah) 85 3 Lo ∧ SH w0 [] w' ([⟨g7, 24, [I m, .slice A' j cap']⟩, ⟨g2, 24, [I m, .slice A l.length cap]⟩] ++ Lo)) (l.length) (⟨0, none, 0, [], by omega, rfl, OwnS.nil, H.reidx [0, 1] (by decide) rfl⟩) ?_
 clear H
 rintro k u w ⟨j, A', cap', Lo, hk, h8, hO, H⟩
 refine WP.know (t := 8) h8<|Y.qq<|Y.a rfl<|Y.W H 1 rfl<|Y.E rfl<|Y.lt rfl<|Y.z ?_
 refine WP.cond rfl (fun hc8 => ?_) (fun hc8 => ?_)
 ·have hlt : j < l.length := by simpa using hc8
  obtain ⟨b, o, rfl, hc⟩ := hz j hlt
  have el : ((l.take (j + 1)).map rv).flatMap jah = ((l.take j).map rv).flatMap jah ++ jah (rv l[j]) := by rw [List.take_succ_eq_append_getElem hlt, List.map_append, List.flatMap_append]; rfl
  have hf0 : w0.cell? ⟨b, o + j * 3, none⟩ = some (I l[j].f) := hc.1
  have hf1 : w0.cell? ⟨b, o + j * 3 + 1, none⟩ = some (I l[j].t) := hc.2.1
  have hf2 : w0.cell? ⟨b, o + j * 3 + 2, none⟩ = some (I l[j].secs) := hc.2.2.1
  refine Y.k<|Y.q<|WP.block ?_
  have Hf := H
  replace H : SH w0 [] w [⟨g2, 24, [I m, .slice (some ⟨b, o, none⟩) l.length cap]⟩] := (H.reidxT (L := [_, _]) (L' := [⟨g2, 24, [I m, .slice (some ⟨b, o, none⟩) l.length cap]⟩]) [1] (by decide) rfl).drop Y.sl
  refine WP.rheldC [31, 32, 33, 34, 35, 36, 37, 38, 39, 40, 41, 42, 43, 44, 45, 46, 47, 48, 49, 50, 51, 52, 53, 54] (fun _ w' => ∃ (A' : Option Addr) (cap' : Nat) (Lo : List Blk), OwnS A' cap' (j + 1) (((l.take j).map rv).flatMap jah ++ jah (rv l[j])) 85 3 Lo ∧ SH w0 [] w' ([⟨g7, 24, [I m, .slice A' (j + 1) cap']⟩, ⟨g2, 24, [I m, .slice (some ⟨b, o, none⟩) l.length cap]⟩] ++ Lo)) mixed H ?_ ?_
  ·clear H; intro w hbw10 H
   refine Y.tf 0 H rfl<|Y.tf 2 H rfl<|Y.tl 3 H 0 rfl<|Y.t 4 H rfl rfl (fun w H => Y.m rfl)<|Y.t 5 H rfl rfl (fun w H => Y.X rfl rfl rfl rfl rfl)<|Y.tf 6 H rfl<|Y.t 7 H rfl rfl (fun w H => Y.c (H.ld0 (by assumption)) rfl) ?_
   refine Y.tf 8 H rfl<|Y.tl 9 H 0 rfl<|Y.t 10 H rfl rfl (fun w H => Y.m rfl)<|Y.t 11 H rfl rfl (fun w H => Y.X rfl rfl rfl rfl rfl)<|Y.tf 12 H rfl<|Y.t 13 H rfl rfl (fun w H => Y.c (H.ld0 (by assumption)) rfl) ?_
   refine Y.tf 14 H rfl<|Y.tl 15 H 0 rfl<|Y.t 16 H rfl rfl (fun w H => Y.m rfl)<|Y.t 17 H rfl rfl (fun w H => Y.X rfl rfl rfl rfl rfl)<|Y.tf 18 H rfl<|Y.t 19 H rfl rfl (fun w H => Y.c (H.ld0 (by assumption)) rfl) ?_
   refine Y.t 20 H rfl rfl (fun w H => Ev.build (jbi rfl rfl rfl)) ?_
   refine Y.A2 1 21 rfl rfl rfl ?_ ?_
   ·try replace Hf := Hf.toBelow hbw10
    refine Y.v (Y.l Hf 0 rfl rfl rfl)<|Y.z <| ⟨(H), ?_⟩
    refine Y.A1 21 rfl rfl ?_
    try replace Hf := Hf.toBelow hbw10
    refine OPS.buildSlice rfl rfl rfl rfl (jfx rfl) Hf ?_
    clear H Hf; intro g52 w Hf
    have H : SH w0 [] w [⟨g2, 24, [I m, .slice (some ⟨b, o, none⟩) l.length cap]⟩] := (Hf.reidxT (L := [_, _, _]) (L' := [⟨g2, 24, [I m, .slice (some ⟨b, o, none⟩) l.length cap]⟩]) [2] (by decide) rfl).drop Y.sl
    refine Y.z <| ⟨(H), ?_⟩
    refine Y.A1 22 rfl rfl<|OPS.append (m := 1) (news := jah (rv l[j])) (R := [⟨g52, 85, jah (rv l[j])⟩, ⟨g7, 24, [I m, .slice A' j cap']⟩, ⟨g2, 24, [I m, .slice (some ⟨b, o, none⟩) l.length cap]⟩]) rfl rfl rfl rfl rfl (z8 rfl) rfl rfl hO rfl (y0 Hf 0 rfl) rfl (by omega) (by unfold maxLen; omega) Hf (List.Perm.refl _) ?_
    clear H Hf hO; intro A' cap' Lo w hO Hf
    have H : SH w0 [] w [⟨g2, 24, [I m, .slice (some ⟨b, o, none⟩) l.length cap]⟩] := (Hf.reidxT (L := [_, _, _]) (L' := [⟨g2, 24, [I m, .slice (some ⟨b, o, none⟩) l.length cap]⟩]) [2] (by decide) rfl).drop Y.sl
    refine Y.z <| ⟨(H), ?_⟩
    refine Y.tf 23 H rfl<|Y.A1 24 rfl rfl<|Y.st 1 Hf rfl (cS rfl) rfl ?_
    clear H Hf; intro w Hf
    replace Hf := Hf.drop (L' := [⟨g7, 24, [I m, .slice A' (j + 1) cap']⟩, ⟨g2, 24, [I m, .slice (some ⟨b, o, none⟩) l.length cap]⟩] ++ Lo) Y.sc
    have H : SH w0 [] w [⟨g2, 24, [I m, .slice (some ⟨b, o, none⟩) l.length cap]⟩] := (Hf.reidxT (L := [_, _]) (L' := [⟨g2, 24, [I m, .slice (some ⟨b, o, none⟩) l.length cap]⟩]) [1] (by decide) rfl).drop Y.sl
    refine Y.z <| ⟨(H), ?_⟩
    refine Y.dn ?_
    exact ⟨Y.ag, A', cap', Lo, hO, Hf⟩
   ·try replace Hf := Hf.toBelow hbw10
    refine OPS.buildSlice rfl rfl rfl rfl (jfx rfl) Hf ?_
    clear H Hf; intro g52 w Hf
    have H : SH w0 [] w [⟨g2, 24, [I m, .slice (some ⟨b, o, none⟩) l.length cap]⟩] := (Hf.reidxT (L := [_, _, _]) (L' := [⟨g2, 24, [I m, .slice (some ⟨b, o, none⟩) l.length cap]⟩]) [2] (by decide) rfl).drop Y.sl
    refine Y.z <| ⟨(H), ?_⟩
    refine Y.A1 1 rfl rfl ?_
    try replace Hf := Hf.toBelow hbw10
    refine Y.v (Y.l Hf 1 rfl rfl rfl)<|Y.z <| ⟨(H), ?_⟩
    refine Y.A1 22 rfl rfl<|OPS.append (m := 1) (news := jah (rv l[j])) (R := [⟨g52, 85, jah (rv l[j])⟩, ⟨g7, 24, [I m, .slice A' j cap']⟩, ⟨g2, 24, [I m, .slice (some ⟨b, o, none⟩) l.length cap]⟩]) rfl rfl rfl rfl rfl (z8 rfl) rfl rfl hO rfl (y0 Hf 0 rfl) rfl (by omega) (by unfold maxLen; omega) Hf (List.Perm.refl _) ?_
    clear H Hf hO; intro A' cap' Lo w hO Hf
    have H : SH w0 [] w [⟨g2, 24, [I m, .slice (some ⟨b, o, none⟩) l.length cap]⟩] := (Hf.reidxT (L := [_, _, _]) (L' := [⟨g2, 24, [I m, .slice (some ⟨b, o, none⟩) l.length cap]⟩]) [2] (by decide) rfl).drop Y.sl
    refine Y.z <| ⟨(H), ?_⟩
    refine Y.tf 23 H rfl<|Y.A1 24 rfl rfl<|Y.st 1 Hf rfl (cS rfl) rfl ?_
    clear H Hf; intro w Hf
    replace Hf := Hf.drop (L' := [⟨g7, 24, [I m, .slice A' (j + 1) cap']⟩, ⟨g2, 24, [I m, .slice (some ⟨b, o, none⟩) l.length cap]⟩] ++ Lo) Y.sc
    have H : SH w0 [] w [⟨g2, 24, [I m, .slice (some ⟨b, o, none⟩) l.length cap]⟩] := (Hf.reidxT (L := [_, _]) (L' := [⟨g2, 24, [I m, .slice (some ⟨b, o, none⟩) l.length cap]⟩]) [1] (by decide) rfl).drop Y.sl
    refine Y.z <| ⟨(H), ?_⟩
    refine Y.dn ?_
    exact ⟨Y.ag, A', cap', Lo, hO, Hf⟩
  clear H
  rintro u w ⟨A', cap', Lo, hO, H⟩
  refine Y.r<|Y.a rfl<|Y.P rfl<|Y.bz rfl ?_
  exact ⟨Y.ag, k - 1, by omega, j + 1, A', cap', Lo, by omega, rfl, by rw [el]; exact hO, H⟩
 have hj : j = l.length := by simp at hc8; omega
 subst hj
 rw [List.take_length] at hO
 have hrl : (l.map rv).length = l.length := by simp
 have hz2 := (hO.rows jgZ (by decide) H).1
 rw [← hrl] at H
 refine WP.exit<|XB.hit<|Y.qr<|Y.O H 0 rfl<|Y.a rfl<|Y.c2 58 rfl (r8To m s A' (l.map rv) cap' K D w hok.rv hsm (by rw [rv_rv]; exact hR) hz2) ?_
 rintro _ w ⟨gd, ge, d, ed, rfl, hdl, hdv, Hc⟩
 refine ⟨_, rfl, ?_⟩
 replace H := SH.call (Lv := []) (by rw [List.append_nil]; exact H) Hc
 clear Hc
 have hnd := hok.n2
 have htl := jau m l s
 have hml : (jan m l s).length = d.length := by omega
 refine Y.T rfl<|Y.G rfl<|Y.G rfl<|Y.aS rfl<|Y.aS rfl<|Y.z<|Y.qq<|Y.bz rfl<|WP.block<|WP.loop [11, 61, 62, 63, 64, 65, 66, 67, 68, 69, 70, 71, 72, 73, 74] (fun k e w' => ∃ q : Nat, q + k = m ∧ e 11 = I q ∧ SH w0 [] w' [⟨gd, 3, (jcl (jan m l s) d q).map I⟩]) (m) (⟨0, by omega, rfl, by rw [jde]; exact H.drop (L' := [_]) (by simp)⟩) ?_
 clear H
 rintro k u w ⟨q, hk, h11, H⟩
 refine WP.know (t := 11) h11<|Y.qq<|Y.a rfl<|Y.sS rfl<|Y.E rfl<|Y.lt rfl<|Y.z ?_
 refine WP.cond rfl (fun hc13 => ?_) (fun hc13 => ?_)
 ·have hqm : q < m := by simp at hc13; omega
  have hmx : (jcl (jan m l s) d q).length = m := by rw [jci hml (by omega)]; exact htl
  have hms := jdV (m := d) hml (show q < (jan m l s).length by omega)
  have hdq : (jcl (jan m l s) d q)[q]'(by omega) = d[q]'(by omega) := List.getElem_of_getElem? (by rw [jim hml (by omega)]; exact List.getElem?_eq_getElem (by omega)) |>.2
  have hfa := farAway hok hR hdl hdv hqm
  have hx := (y9 H 0 rfl).atK (show q < (jcl (jan m l s) d q).length by omega)
  rw [hdq] at hx
  have hpu : jam ((jcl (jan m l s) d q).map I) (0 + q) [I (-1)] = ((jcl (jan m l s) d q).set q (-1)).map I := by rw [Nat.zero_add, jae]
  refine Y.k<|Y.q<|WP.block<|Y.qr<|Y.sS rfl<|Y.a rfl<|Y.I rfl<|Y.v (Y.c (by assumption) rfl) ?_
  refine Y.v (Ev.eql rfl rfl)<|Y.z ?_
  refine WP.cond rfl (fun hc15 => ?_) (fun hc15 => ?_)
  ·have h1 : d[q]'(by omega) = 1099511627776 := by simpa using hc15
   rw [if_pos h1] at hfa
   refine Y.r<|Y.sS rfl<|Y.a rfl<|Y.I rfl<|OPS.store (vs := [I (-1)]) 0 _ rfl rfl rfl (j4 rfl) rfl (cI rfl) rfl rfl H rfl (by simp only [List.length_map]; omega) ?_
   clear H; intro w H
   simp only [List.set_cons_zero, List.set_cons_succ] at H
   rw [hpu, ← hfa, hms] at H
   refine Y.z<|Y.r<|Y.a rfl<|Y.P rfl<|Y.bz rfl ?_
   exact ⟨Y.ag, k - 1, by omega, q + 1, by omega, rfl, H⟩
  have h1 : ¬ d[q]'(by omega) = 1099511627776 := by simpa using hc15
  rw [if_neg h1] at hfa
  have hsame : jcl (jan m l s) d (q + 1) = jcl (jan m l s) d q := by rw [← hms, hfa, ← hdq, List.set_getElem_self]
  rw [← hsame] at H
  refine Y.k<|Y.r<|Y.a rfl<|Y.P rfl<|Y.bz rfl ?_
  exact ⟨Y.ag, k - 1, by omega, q + 1, by omega, rfl, H⟩
 refine WP.exit<|XB.hit<|Y.qr<|Y.sS rfl<|Y.aS rfl<|Y.bz rfl ?_
 refine WP.ret ⟨_, rfl, ?_⟩
 have hq : q = m := by simp at hc13; omega
 have hma := jdO hml
 rw [htl] at hma
 rw [hq, hma] at H
 exact ⟨some ⟨gd, 0, none⟩, _, by rw [he, ht, jau]; rfl, by rw [ht]; exact jg5.mk gd _, H⟩
end Go.Proofs.YtgcokllbophkkaaGreat
namespace Go.Proofs.YtgcokllbophkkaaGreat
open Go Go.W Go.RowKit
theorem onesTk {α : Type} {enc : α → Value} {w : World} {A : Option Addr} {l : List α} (h : jaa enc w A l) (j : Nat) : jaa enc w A (l.take j) := fun k hk => by
 obtain ⟨b, o, h1, h2⟩ := h k (by simp at hk; omega)
 exact ⟨b, o, h1, by rw [List.getElem_take]; exact h2⟩
theorem rowsTk {α : Type} {sz : Nat} {enc : α → List Value} {w : World} {A : Option Addr} {l : List α} (h : k8 sz enc w A l) (j : Nat) : k8 sz enc w A (l.take j) := fun k hk => by
 obtain ⟨b, o, h1, h2⟩ := h k (by simp at hk; omega)
 exact ⟨b, o, h1, by rw [List.getElem_take]; exact h2⟩
theorem jhk (A : Option Addr) (l : List Int) (j cap : Nat) (x : Int) (w0 : World) (hz : k9 w0 A l) (hj : j ≤ l.length) (hl : l.length ≤ maxLen) :
  Calls Tryz.prog 30 #[.slice A j cap, I x] w0 fun e w' => e = .returned (.bool (decide (x ∈ l.take j))) ∧ Below w0.heap.size w0 w' := by
 have h := jdk A (l.take j) cap x w0 (onesTk hz j) (by rw [List.length_take]; omega)
 rw [List.length_take, Nat.min_eq_left hj] at h; exact h
theorem jeH (A : Option Addr) (l : List z6) (j cap : Nat) (f : Nat) (caps : List Value) (p : z6 → Bool) (w0 : World) (hz : k8 2 j8 w0 A l) (hj : j ≤ l.length) (hl : l.length ≤ maxLen) (hfun : jhU f = true)
  (hf : ∀ x ∈ l, ∀ w, Below w0.heap.size w0 w → Calls Tryz.prog f ([Value.agg (j8 x).toArray] ++ caps).toArray w fun e w' => e = .returned (.bool (p x)) ∧ Below w.heap.size w w') :
  Calls Tryz.prog 46 #[.slice A j cap, .func (.func f) #[] caps.toArray] w0 fun e w' => e = .returned (.bool ((l.take j).any p)) ∧ Below w0.heap.size w0 w' := by
 have h := jfl A (l.take j) cap f caps p w0 (rowsTk hz j) (by rw [List.length_take]; omega) hfun (fun x hx => hf x (List.mem_of_mem_take hx))
 rw [List.length_take, Nat.min_eq_left hj] at h; exact h
def jaA (l : List Int) : Bool := !decide l.Nodup
theorem jbB {α : Type} {l : List α} {j : Nat} (hj : j < l.length) : (l.take (j + 1)).Nodup ↔ (l.take j).Nodup ∧ l[j] ∉ l.take j := by
 rw [List.take_succ_eq_append_getElem hj, List.nodup_append]
 constructor
 ·rintro ⟨h1, _, h3⟩
  exact ⟨h1, fun hm => h3 _ hm _ (by simp) rfl⟩
 ·rintro ⟨h1, h2⟩
  exact ⟨h1, by simp, fun a ha b hb he => by simp at hb; subst hb; subst he; exact h2 ha⟩
theorem jb4 {α : Type} {l : List α} {j : Nat} (h : l.Nodup) : (l.take j).Nodup := h.sublist (List.take_sublist _ _)
theorem jet (A : Option Addr) (l : List Int) (cap : Nat) (w0 : World) (hz : k9 w0 A l) (hl : l.length ≤ maxLen) (hcap : l.length ≤ cap) :
  Calls Tryz.prog 42 #[.slice A l.length cap] w0 fun e w' => e = .returned (.bool (jaA l)) ∧ Below w0.heap.size w0 w' := by
 have H := SH.refl w0
 have hl' : l.length ≤ 9223372036854775807 := by unfold maxLen at hl; omega
 refine Calls.ofWP Tryz.func42 rfl Tryz.results42 Tryz.ntmps42 rfl<|Y.qr<|Y.aB rfl<|Y.z<|Y.qq<|Y.sS rfl<|Y.E rfl<|Y.a rfl<|Y.z<|WP.block<|WP.loop [2, 3, 4, 7, 8, 9, 10, 11, 12, 13, 14, 15, 16, 17] (fun k e w' => ∃ j : Nat, j + k = l.length ∧ e 7 = I j ∧ SH w0 [] w' [] ∧ (l.take j).Nodup) (l.length) (⟨0, by omega, rfl, H, by simp⟩) ?_
 clear H
 rintro k u w ⟨j, hk, h7, H, hall⟩
 refine WP.know (t := 7) h7<|Y.qr<|Y.lt rfl<|Y.z<|Y.q ?_
 refine WP.cond rfl (fun hc2 => ?_) (fun hc2 => ?_)
 ·have hlt : j < l.length := by simpa using hc2
  obtain ⟨b, o, rfl, hx⟩ := hz j hlt
  have hnt := jbB hlt
  refine Y.k<|Y.q<|WP.block<|Y.qr<|Y.a rfl<|Y.I rfl<|Y.v (Y.c (H.ld0 (by assumption)) rfl) ?_
  refine Y.b rfl<|Y.bz rfl<|Y.qr<|Y.sS rfl<|Y.a rfl<|Y.v (Ev.sliceTo (j := j) (x7 rfl) ⟨1, j4 rfl⟩ rfl rfl rfl (by omega))<|Y.a rfl<|Y.cl 16 rfl (jhk _ l j cap l[j] w (hz.sh H) (by omega) hl) H ?_
  clear H; intro w H
  refine Y.z ?_
  refine WP.cond rfl (fun hc4 => ?_) (fun hc4 => ?_)
  ·refine Y.qr<|Y.aB rfl<|Y.z ?_
   refine WP.ret ⟨_, rfl, ?_⟩
   have he : l[j] ∈ l.take j := by simpa using hc4
   have : jaA l = true := by
    unfold jaA
    rw [Bool.not_eq_true', decide_eq_false_iff_not]
    exact fun h => (hnt.1 (jb4 h)).2 he
   exact ⟨by rw [this]; rfl, H.below⟩
  refine Y.k<|Y.r<|Y.P rfl<|Y.a rfl<|Y.z ?_
  have he : l[j] ∉ l.take j := by simpa using hc4
  exact ⟨Y.ag, k - 1, by omega, j + 1, by omega, rfl, H, hnt.2 ⟨hall, he⟩⟩
 refine WP.exit<|XB.hit<|Y.qr<|Y.aB rfl<|Y.z ?_
 refine WP.ret ⟨_, rfl, ?_⟩
 have hj : j = l.length := by simp at hc2; omega
 rw [hj, List.take_length] at hall
 exact ⟨by simp only [jaA, hall, decide_true]; rfl, H.below⟩
theorem jiF (A : Option Addr) (l : List Int) (cap : Nat) (w0 : World) (hz : k9 w0 A l) (hl : l.length ≤ maxLen) :
  Calls Tryz.prog 43 #[.slice A l.length cap] w0 fun e w' => e = .returned (.bool (jbC l)) ∧ Below w0.heap.size w0 w' := by
 have H := SH.refl w0
 have hl' : l.length ≤ 9223372036854775807 := by unfold maxLen at hl; omega
 refine Calls.ofWP Tryz.func43 rfl Tryz.results43 Tryz.ntmps43 rfl<|Y.qr<|Y.aB rfl<|Y.z<|Y.qq<|Y.sS rfl<|Y.E rfl<|Y.Q rfl<|Y.bz rfl<|WP.block<|WP.loop [2, 3, 7, 8, 9, 10, 11, 12, 13, 14, 15, 16, 17, 18, 19, 20] (fun k e w' => ∃ j : Int, j ≤ k ∧ -1 ≤ j ∧ j < l.length ∧ (j = -1 → l.length = 0) ∧ e 3 = I j ∧ SH w0 [] w' [] ∧ ∀ i : Nat, j ≤ i → i + 1 < l.length → l.getD i 0 ≤ l.getD (i + 1) 0) (l.length) (⟨(l.length : Int) - 1, by omega, by omega, by omega, by omega, rfl, H, fun i h1 h2 => by omega⟩) ?_
 clear H
 rintro k u w ⟨j, hk, hj1, hj2, hj3, h3, H, hall⟩
 refine WP.know (t := 3) h3<|Y.qq<|Y.a rfl<|Y.v (Ev.gtr rfl rfl)<|Y.z ?_
 refine WP.cond rfl (fun hc2 => ?_) (fun hc2 => ?_)
 ·have hj0 : 0 < j := by simpa using hc2
  obtain ⟨q, rfl⟩ : ∃ q : Nat, j = ((q + 1 : Nat) : Int) := ⟨(j - 1).toNat, by omega⟩
  obtain ⟨b, o, rfl, hx⟩ := hz (q + 1) (by omega)
  have hx1 := hz.atK (show q + 1 < l.length by omega)
  have hx2 := hz.atK (show q < l.length by omega)
  clear hx
  refine Y.k<|Y.q<|WP.block<|Y.q<|WP.rquiet mixed (by kernel_rfl) H ?_
  clear H; intro w hbw4 H
  refine Y.sS rfl<|Y.a rfl<|Y.I rfl<|Y.v (Y.c (H.ld0 (by assumption)) rfl) ?_
  refine Y.sS rfl<|Y.a rfl<|Y.Q rfl<|Y.v (Ev.indexAddr1 (j := q) (x7 rfl) (j4 rfl) rfl rfl (by omega) (by omega))<|Y.v (Y.c (H.ld0 (by assumption)) rfl) ?_
  refine OPS.callq rfl rfl rfl (EvC.func (z7 rfl)) (fun w2 hb2 => cmpLess _ _ _) ?_
  refine OPS.nilq H ?_
  clear H; intro w hbx4 H
  refine WP.cond rfl (fun hc4 => ?_) (fun hc4 => ?_)
  ·refine Y.qr<|Y.aB rfl<|Y.z ?_
   refine WP.ret ⟨_, rfl, ?_⟩
   have he : l[q + 1] < l[q] := by simpa using hc4
   have : jbC l = false := by
    unfold jbC
    rw [List.all_eq_false]
    refine ⟨q, by simp; omega, ?_⟩
    simp [show q < l.length by omega, show q + 1 < l.length by omega]
    omega
   exact ⟨by rw [this]; rfl, H.below⟩
  refine Y.k<|Y.r<|Y.a rfl<|Y.Q rfl<|Y.bz rfl ?_
  have he : ¬ l[q + 1] < l[q] := by simpa using hc4
  refine ⟨Y.ag, k - 1, by omega, (q : Int), by omega, by omega, by omega, by omega, congrArg I (by omega), H, fun i h1 h2 => ?_⟩
  rcases Nat.lt_or_ge q i with h | h
  ·exact hall i (by omega) h2
  ·obtain rfl : i = q := by omega
   simp [show i < l.length by omega, h2]
   omega
 refine WP.exit<|XB.hit<|Y.qr<|Y.aB rfl<|Y.z ?_
 refine WP.ret ⟨_, rfl, ?_⟩
 have hj : j ≤ 0 := by simpa using hc2
 have : jbC l = true := by
  unfold jbC
  rw [List.all_eq_true]
  intro i hi
  have hi2 : i < l.length - 1 := by simpa using hi
  exact decide_eq_true (hall i (by omega) (by omega))
 exact ⟨by rw [this]; rfl, H.below⟩
end Go.Proofs.YtgcokllbophkkaaGreat
namespace Go.Proofs.YtgcokllbophkkaaGreat
open Go Go.W Go.RowKit
structure q9 where
 depot : Int
 cap : Int
 from_ : Int
 to_ : Int
instance : Inhabited q9 := ⟨⟨0, 0, 0, 0⟩⟩
def k5 (t : q9) : List Value := [I t.depot, I t.cap, I t.from_, I t.to_]
def jbc (n : Int) (t : q9) : Bool := !inB t.depot 0 (n - 1)
def jaK (t : q9) : Bool := !inB t.cap 1 32 || decide (t.from_ < 0) || decide (t.to_ < t.from_) || decide (86400 < t.to_)
def jal (n : Int) : List q9 → Int
 | [] => 0
 | t :: l => if jbc n t = true then 7 else if jaK t = true then 1 else jal n l
def jbv (n : Int) (x : z6) : Bool := !inB x.node 0 (n - 1)
def jaY (x : z6) : Bool := decide (x.move = 0) || !inB x.move (-32) 32
def jaz (n : Int) : List z6 → Int
 | [] => 0
 | t :: l => if jbv n t = true then 7 else if jaY t = true then 1 else jaz n l
theorem jbe {n : Int} {l : List q9} : ∀ {j : Nat}, j ≤ l.length → (∀ i (hi : i < l.length), i < j → jbc n l[i] = false ∧ jaK l[i] = false) → jal n l = jal n (l.drop j)
 | 0, _, _ => by simp
 | j + 1, hj, h => by
  rw [jbe (j := j) (by omega) (fun i hi hij => h i hi (by omega)), List.drop_eq_getElem_cons (show j < l.length by omega), jal]
  obtain ⟨h1, h2⟩ := h j (by omega) (by omega)
  rw [h1, h2]; simp
theorem jbn {n : Int} {l : List z6} : ∀ {j : Nat}, j ≤ l.length → (∀ i (hi : i < l.length), i < j → jbv n l[i] = false ∧ jaY l[i] = false) → jaz n l = jaz n (l.drop j)
 | 0, _, _ => by simp
 | j + 1, hj, h => by
  rw [jbn (j := j) (by omega) (fun i hi hij => h i hi (by omega)), List.drop_eq_getElem_cons (show j < l.length by omega), jaz]
  obtain ⟨h1, h2⟩ := h j (by omega) (by omega)
  rw [h1, h2]; simp
theorem jeD {n : Int} : ∀ {l : List q9}, jal n l = 0 → ∀ t ∈ l, jbc n t = false ∧ jaK t = false
 | [], _, _, h => by cases h
 | a :: l, h, t, ht => by
  rw [jal] at h
  split at h
  ·cases h
  ·rename_i h1
   split at h
   ·cases h
   ·rename_i h2
    rcases List.mem_cons.1 ht with rfl | ht
    ·exact ⟨by simpa using h1, by simpa using h2⟩
    ·exact jeD h t ht
theorem jeZ {n : Int} : ∀ {l : List z6}, jaz n l = 0 → ∀ t ∈ l, jbv n t = false ∧ jaY t = false
 | [], _, _, h => by cases h
 | a :: l, h, t, ht => by
  rw [jaz] at h
  split at h
  ·cases h
  ·rename_i h1
   split at h
   ·cases h
   ·rename_i h2
    rcases List.mem_cons.1 ht with rfl | ht
    ·exact ⟨by simpa using h1, by simpa using h2⟩
    ·exact jeZ h t ht
def jbd (ns : List z6) : Bool := jaA (ns.map (·.node))
def jfs (ts : List q9) (ns : List z6) : Bool := decide ((8 : Int) < ts.length) || decide ((16 : Int) < ns.length)
def q7 (n : Int) (l : List Edg) (ts : List q9) (ns : List z6) (h : Int) : Int :=
 if jax n l ≠ 0 then jax n l else if jfs ts ns = true then 8 else if jal n ts ≠ 0 then jal n ts else if jaz n ns ≠ 0 then jaz n ns else if jbd ns = true then 6 else if inB h 0 3600 = true then 0 else 1
theorem jhY (y : z6) (g : Nat) (nd mv : Int) (w0 : World) (hc : w0.cell? ⟨g, 0, none⟩ = some (I nd)) :
  Calls Tryz.prog 47 #[.agg #[I y.node, I y.move], .pointer (some ⟨g, 0, none⟩)] w0 fun e w' => e = .returned (.bool (decide (y.node = nd))) ∧ Below w0.heap.size w0 w' := by
 have H := SH.refl w0
 refine Calls.ofWP Tryz.func47 rfl Tryz.results47 Tryz.ntmps47 rfl<|Y.qr<|Y.bx (cA rfl) H ?_
 clear H; intro g2 w H
 refine Y.aB rfl<|Y.z<|Y.qr<|Y.W H 0 rfl<|Y.F rfl<|Y.v (Y.c (H.ld0 (by assumption)) rfl) ?_
 refine Y.v (Ev.eql rfl rfl)<|Y.aB rfl<|Y.z ?_
 refine WP.ret ⟨_, rfl, ?_⟩
 exact ⟨rfl, H.below⟩
theorem jcA (n hd : Int) (A B C : Option Addr) (l : List Edg) (ts : List q9) (ns : List z6) (ca cb cc : Nat) (w0 : World) (hz : ja3 w0 A l) (ht : k8 4 k5 w0 B ts) (hn : k8 2 j8 w0 C ns) (hcc : ns.length ≤ cc) :
  Calls Tryz.prog 25 #[.agg #[I n, .slice A l.length ca, .slice B ts.length cb, .slice C ns.length cc, I hd]] w0 fun e w' => e = .returned (I (q7 n l ts ns hd)) ∧ Below w0.heap.size w0 w' := by
 have H := SH.refl w0
 refine Calls.ofWP Tryz.func25 rfl Tryz.results25 Tryz.ntmps25 rfl<|Y.qr<|Y.bx (cA rfl) H ?_
 clear H; intro g1 w H
 refine Y.bz rfl<|Y.qq<|Y.F rfl<|Y.v (Ev.loadN [_, _] (j6 rfl) (j4 rfl) rfl ⟨H.ldL 0 rfl _ rfl, H.ldL 0 rfl _ rfl, trivial⟩)<|Y.cl 12 rfl (jgx n A l ca w (hz.sh H)) H ?_
 clear H; intro w H
 refine Y.bz rfl<|Y.qr<|Y.a rfl<|Y.V rfl<|Y.z ?_
 refine WP.cond rfl (fun hc2 => ?_) (fun hc2 => ?_)
 ·refine Y.qr<|Y.a rfl<|Y.bz rfl ?_
  refine WP.ret ⟨_, rfl, ?_⟩
  have h : jax n l ≠ 0 := by simpa using hc2
  exact ⟨by rw [q7, if_pos h]; rfl, H.below⟩
 have h0 : jax n l = 0 := by simpa using hc2
 refine Y.k<|Y.qq<|Y.W H 0 rfl<|Y.E rfl<|Y.v (Ev.gtr rfl rfl)<|Y.B rfl<|Y.gf rfl<|Y.yy H 0 rfl<|Y.g rfl rfl (fun hg => Ev.len (x7 rfl) (gvE hg rfl))<|Y.g rfl rfl (fun hg => Ev.gtr (gvE hg rfl) rfl)<|Y.po rfl<|Y.z ?_
 refine WP.cond rfl (fun hc4 => ?_) (fun hc4 => ?_)
 ·refine Y.qr<|Y.bz rfl ?_
  refine WP.ret ⟨_, rfl, ?_⟩
  exact ⟨by rw [q7, if_neg (by simp [h0]), if_pos (show jfs ts ns = true by simpa [jfs] using hc4)]; rfl, H.below⟩
 have hfu : jfs ts ns = false := by simpa [jfs] using hc4
 have hlt8 : ts.length ≤ 8 ∧ ns.length ≤ 16 := by simp at hc4; omega
 obtain ⟨m, rfl, hok⟩ := je3 h0
 have hm2 := hok.n2
 have e0 : q7 m l ts ns hd = if jal m ts ≠ 0 then jal m ts else if jaz m ns ≠ 0 then jaz m ns else if jbd ns = true then 6 else if inB hd 0 3600 = true then 0 else 1 := by rw [q7, if_neg (by simp [h0]), if_neg (by simp [hfu])]
 refine Y.k<|Y.qq<|Y.W H 0 rfl<|Y.E rfl<|Y.a rfl<|Y.z<|WP.block<|WP.loop [2, 5, 29, 30, 31, 32, 33, 34, 35, 36, 37, 38, 39, 40, 41, 42, 43, 44, 45, 46, 47, 48, 49, 50, 51, 52, 53, 54, 55, 56, 57, 58, 59, 60, 61, 62, 63, 64, 65, 66] (fun k e w' => ∃ j : Nat, j + k = ts.length ∧ e 29 = I j ∧ SH w0 [] w' [⟨g1, 28, [I m, .slice A l.length ca, .slice B ts.length cb, .slice C ns.length cc, I hd]⟩] ∧ ∀ i (hi : i < ts.length), i < j → jbc m ts[i] = false ∧ jaK ts[i] = false) (ts.length) (⟨0, by omega, rfl, H, fun i _ hi => absurd hi (by omega)⟩) ?_
 clear H
 rintro k u w ⟨j, hk, h29, H, hall⟩
 refine WP.know (t := 29) h29<|Y.qr<|Y.lt rfl<|Y.z<|Y.q ?_
 refine WP.cond rfl (fun hc7 => ?_) (fun hc7 => ?_)
 ·have hlt : j < ts.length := by simpa using hc7
  obtain ⟨b, o, rfl, hc⟩ := ht j hlt
  have hc' := k7 H hc
  refine Y.k<|Y.q<|WP.block<|Y.qr<|Y.U rfl<|Y.v (by (change Ev _ _ _ _ (Op.load 81 (Operand.tmp 31)) _; exact Ev.loadN (k5 ts[j]) (j6 rfl) (j4 rfl) rfl hc'))<|Y.al H rfl rfl ?_
  clear H; intro g5 w H
  refine Y.ss 0 H rfl (cA rfl) rfl ?_
  clear H; intro w H
  refine Y.z<|Y.qq<|Y.W H 0 rfl<|Y.F rfl<|Y.W H 1 rfl<|Y.Q rfl<|Y.cl 39 rfl (jc7 ts[j].depot 0 (m - 1) _) H ?_
  clear H; intro w H
  refine Y.v (Ev.not rfl)<|Y.z ?_
  refine WP.cond rfl (fun hc9 => ?_) (fun hc9 => ?_)
  ·refine Y.qr<|Y.bz rfl ?_
   refine WP.ret ⟨_, rfl, ?_⟩
   have he : jal m ts = 7 := by rw [jbe (by omega) hall, List.drop_eq_getElem_cons hlt, jal, if_pos (show jbc m ts[j] = true from hc9)]
   exact ⟨by rw [e0, he]; rfl, H.below⟩
  refine Y.k<|Y.qr<|Y.W H 0 rfl<|Y.cl 43 rfl (jc7 ts[j].cap 1 32 _) H ?_
  clear H; intro w H
  refine Y.v (Ev.not rfl)<|Y.B rfl<|Y.gf rfl<|Y.g rfl rfl (fun hg => Ev.fieldAddr (jaf rfl) (gvE hg rfl))<|Y.yy H 0 rfl<|Y.g rfl rfl (fun hg => Ev.lss (gvE hg rfl) rfl)<|Y.po rfl<|Y.B rfl<|Y.gf rfl<|Y.g rfl rfl (fun hg => Ev.fieldAddr (jaf rfl) (gvE hg rfl))<|Y.yy H 0 rfl<|Y.gf rfl<|Y.g rfl rfl (fun hg => Ev.fieldAddr (jaf rfl) (gvE hg rfl))<|Y.yy H 0 rfl<|Y.g rfl rfl (fun hg => Ev.gtr (gvE hg rfl) (gvE hg rfl))<|Y.po rfl<|Y.B rfl<|Y.gf rfl<|Y.g rfl rfl (fun hg => Ev.fieldAddr (jaf rfl) (gvE hg rfl))<|Y.yy H 0 rfl<|Y.g rfl rfl (fun hg => Ev.gtr (gvE hg rfl) rfl)<|Y.po rfl<|Y.z ?_
  refine WP.cond rfl (fun hc11 => ?_) (fun hc11 => ?_)
  ·refine Y.qr<|Y.bz rfl ?_
   refine WP.ret ⟨_, rfl, ?_⟩
   have he : jal m ts = 1 := by rw [jbe (by omega) hall, List.drop_eq_getElem_cons hlt, jal, if_neg (by rw [show jbc m ts[j] = false from hc9]; simp), if_pos (show jaK ts[j] = true from hc11)]
   exact ⟨by rw [e0, he]; rfl, H.below⟩
  refine Y.k<|Y.r<|Y.P rfl<|Y.a rfl<|Y.z ?_
  refine ⟨Y.ag, k - 1, by omega, j + 1, by omega, rfl, H.drop (by simp), fun i hi hij => ?_⟩
  rcases Nat.lt_succ_iff_lt_or_eq.1 hij with h | rfl
  ·exact hall i hi h
  ·exact ⟨hc9, hc11⟩
 have hj : j = ts.length := by simp at hc7; omega
 subst hj
 have ht0 : jal m ts = 0 := by rw [jbe (by omega) hall]; simp [jal]
 clear hall
 refine WP.exit<|XB.hit<|Y.qq<|Y.W H 0 rfl<|Y.E rfl<|Y.a rfl<|Y.z<|WP.block<|WP.loop [2, 7, 70, 71, 72, 73, 74, 75, 76, 77, 78, 79, 80, 81, 82, 83, 84, 85, 86, 87, 88, 89, 90, 91] (fun k e w' => ∃ j : Nat, j + k = ns.length ∧ e 70 = I j ∧ SH w0 [] w' [⟨g1, 28, [I m, .slice A l.length ca, .slice B ts.length cb, .slice C ns.length cc, I hd]⟩] ∧ ∀ i (hi : i < ns.length), i < j → jbv m ns[i] = false ∧ jaY ns[i] = false) (ns.length) (⟨0, by omega, rfl, H, fun i _ hi => absurd hi (by omega)⟩) ?_
 clear H
 rintro k u w ⟨j, hk, h70, H, hall⟩
 refine WP.know (t := 70) h70<|Y.qr<|Y.lt rfl<|Y.z<|Y.q ?_
 refine WP.cond rfl (fun hc15 => ?_) (fun hc15 => ?_)
 ·have hlt : j < ns.length := by simpa using hc15
  obtain ⟨b, o, rfl, hc⟩ := hn j hlt
  have hc' := k7 H hc
  refine Y.k<|Y.q<|WP.block<|Y.qr<|Y.U rfl<|Y.v (by (change Ev _ _ _ _ (Op.load 68 (Operand.tmp 72)) _; exact Ev.loadN (j8 ns[j]) (j6 rfl) (j4 rfl) rfl hc'))<|Y.al H rfl rfl ?_
  clear H; intro g7 w H
  refine Y.ss 0 H rfl (cA rfl) rfl ?_
  clear H; intro w H
  refine Y.z<|Y.qq<|Y.W H 0 rfl<|Y.F rfl<|Y.W H 1 rfl<|Y.Q rfl<|Y.cl 80 rfl (jc7 ns[j].node 0 (m - 1) _) H ?_
  clear H; intro w H
  refine Y.v (Ev.not rfl)<|Y.z ?_
  refine WP.cond rfl (fun hc17 => ?_) (fun hc17 => ?_)
  ·refine Y.qr<|Y.bz rfl ?_
   refine WP.ret ⟨_, rfl, ?_⟩
   have he : jaz m ns = 7 := by rw [jbn (by omega) hall, List.drop_eq_getElem_cons hlt, jaz, if_pos (show jbv m ns[j] = true from hc17)]
   exact ⟨by rw [e0, ht0, he]; rfl, H.below⟩
  refine Y.k<|Y.qr<|Y.W H 0 rfl<|Y.v (Ev.eql rfl rfl)<|Y.B rfl<|Y.gf rfl<|Y.yy H 0 rfl<|OPS.gcall0 (f := 45) (jc7 ns[j].move (-32) 32 _) (fun _ _ h => h) rfl rfl rfl rfl rfl (fun hg => EvC.conv (EvC.func (z7 rfl)) (l3 (gvE hg rfl) rfl rfl)) ?_
  intro w hbc; replace H := H.toBelow hbc
  refine Y.g rfl rfl (fun hg => Ev.not (gvE hg rfl))<|Y.po rfl<|Y.z ?_
  refine WP.cond rfl (fun hc19 => ?_) (fun hc19 => ?_)
  ·refine Y.qr<|Y.bz rfl ?_
   refine WP.ret ⟨_, rfl, ?_⟩
   have he : jaz m ns = 1 := by rw [jbn (by omega) hall, List.drop_eq_getElem_cons hlt, jaz, if_neg (by rw [show jbv m ns[j] = false from hc17]; simp), if_pos (show jaY ns[j] = true from hc19)]
   exact ⟨by rw [e0, ht0, he]; rfl, H.below⟩
  refine Y.k<|Y.r<|Y.P rfl<|Y.a rfl<|Y.z ?_
  refine ⟨Y.ag, k - 1, by omega, j + 1, by omega, rfl, H.drop (by simp), fun i hi hij => ?_⟩
  rcases Nat.lt_succ_iff_lt_or_eq.1 hij with h | rfl
  ·exact hall i hi h
  ·exact ⟨hc17, hc19⟩
 have hj : j = ns.length := by simp at hc15; omega
 subst hj
 have hn0 : jaz m ns = 0 := by rw [jbn (by omega) hall]; simp [jaz]
 clear hall
 refine WP.exit<|XB.hit<|Y.qq<|Y.W H 0 rfl<|Y.E rfl<|Y.a rfl<|Y.z<|WP.block<|WP.loop [2, 8, 9, 95, 96, 97, 98, 99, 100, 101, 102, 103, 104, 105, 106] (fun k e w' => ∃ j : Nat, j + k = ns.length ∧ e 95 = I j ∧ SH w0 [] w' [⟨g1, 28, [I m, .slice A l.length ca, .slice B ts.length cb, .slice C ns.length cc, I hd]⟩] ∧ ((ns.map (·.node)).take j).Nodup) (ns.length) (⟨0, by omega, rfl, H, by simp⟩) ?_
 clear H
 rintro k u w ⟨j, hk, h95, H, hall⟩
 refine WP.know (t := 95) h95<|Y.qr<|Y.lt rfl<|Y.z<|Y.q ?_
 refine WP.cond rfl (fun hc23 => ?_) (fun hc23 => ?_)
 ·have hlt : j < ns.length := by simpa using hc23
  obtain ⟨b, o, rfl, hc⟩ := hn j hlt
  have hc' := k7 H hc
  have hnt := jbB (l := ns.map (·.node)) (show j < (ns.map (·.node)).length by simpa using hlt)
  refine Y.k<|Y.q<|WP.block<|Y.qr<|Y.a rfl<|Y.U rfl<|Y.v (by (change Ev _ _ _ _ (Op.load 68 (Operand.tmp 98)) _; exact Ev.loadN (j8 ns[j]) (j6 rfl) (j4 rfl) rfl hc'))<|Y.al H rfl rfl ?_
  clear H; intro g9 w H
  refine Y.b rfl<|Y.ss 0 H rfl (cA rfl) rfl ?_
  clear H; intro w H
  refine Y.z<|Y.qr<|Y.W H 1 rfl<|Y.a rfl<|Y.v (Ev.sliceTo (j := j) (x7 rfl) ⟨2, j4 rfl⟩ rfl rfl rfl (by omega))<|Y.v (Ev.makeFunc)<|Y.cl 105 rfl (jeH _ ns j cc _ [.pointer (some ⟨g9, 0, none⟩)] (fun y => decide (y.node = ns[j].node)) w (hn.sh H) (by omega) (by unfold maxLen; omega) rfl (fun x _ w2 hb => jhY x g9 ns[j].node ns[j].move w2 (cell_below hb (H.ldL 0 rfl 0 rfl)))) H ?_
  clear H; intro w H
  refine Y.z ?_
  refine WP.cond rfl (fun hc25 => ?_) (fun hc25 => ?_)
  ·refine Y.qr<|Y.bz rfl ?_
   refine WP.ret ⟨_, rfl, ?_⟩
   obtain ⟨y, hy, he⟩ := List.any_eq_true.1 hc25
   have hm : ns[j].node ∈ (ns.map (·.node)).take j := by rw [← List.map_take]; exact List.mem_map.2 ⟨y, hy, by simpa using he⟩
   have : jbd ns = true := by
    unfold jbd jaA
    rw [Bool.not_eq_true', decide_eq_false_iff_not]
    exact fun h => (hnt.1 (jb4 h)).2 (by simpa using hm)
   exact ⟨by rw [e0, ht0, hn0, this]; rfl, H.below⟩
  refine Y.k<|Y.r<|Y.P rfl<|Y.a rfl<|Y.z ?_
  have hm : ns[j].node ∉ (ns.map (·.node)).take j := by
   rw [← List.map_take]
   intro h
   obtain ⟨y, hy, he⟩ := List.mem_map.1 h
   have := List.any_eq_false.1 hc25 y hy
   simp [he] at this
  exact ⟨Y.ag, k - 1, by omega, j + 1, by omega, rfl, H.drop (by simp), hnt.2 ⟨hall, by simpa using hm⟩⟩
 have hj : j = ns.length := by simp at hc23; omega
 have hnd : jbd ns = false := by
  rw [hj, show ns.length = (ns.map (·.node)).length by simp, List.take_length] at hall
  simp only [jbd, jaA, hall, decide_true]; rfl
 have e1 : q7 m l ts ns hd = if inB hd 0 3600 = true then 0 else 1 := by rw [e0, ht0, hn0, hnd]; simp
 refine WP.exit<|XB.hit<|Y.qq<|Y.W H 0 rfl<|Y.cl 109 rfl (jc7 hd 0 3600 _) H ?_
 clear H; intro w H
 refine Y.v (Ev.not rfl)<|Y.z ?_
 refine WP.cond rfl (fun hc28 => ?_) (fun hc28 => ?_)
 ·refine Y.qr<|Y.bz rfl ?_
  refine WP.ret ⟨_, rfl, ?_⟩
  exact ⟨by rw [e1, if_neg (by simpa using hc28)]; rfl, H.below⟩
 refine Y.k<|Y.qr<|Y.bz rfl ?_
 refine WP.ret ⟨_, rfl, ?_⟩
 exact ⟨by rw [e1, if_pos (by simpa using hc28)]; rfl, H.below⟩
end Go.Proofs.YtgcokllbophkkaaGreat
namespace Go.Proofs.YtgcokllbophkkaaGreat
open Go Go.W Go.RowKit
theorem rowsS {α : Type} {sz : Nat} {enc : α → List Value} {w0 w : World} {S : List Nat} {L : List Blk} {A : Option Addr} {l : List α} (h : k8 sz enc w0 A l) (hS : l ≠ [] → Off A S) (H : SH w0 S w L) : k8 sz enc w A l := by
 cases l with
 | nil => exact k8.nil
 | cons a l => exact h.shS (hS (by simp)) H
theorem jca {n s v : Nat} {l : List Edg} (hok : jaL n l) (hs : s < n) (hv : v < n) : -1 ≤ x9 n l s v ∧ x9 n l s v ≤ 64000 := by
 obtain ⟨K, D, hR⟩ := jd0 hok hs
 rw [jb5 hok hR hv]
 cases hk : K v with
 | true => have := hR.small hok hv hk; simp; omega
 | false => simp
theorem jiZ {n : Nat} {l : List Edg} (hok : jaL n l) : jax n l = 0 := by
 have h1 := hok.n1
 have h2 := hok.n2
 have h3 := hok.len
 rw [jax, if_neg (by simp; omega), if_neg (by omega), ja8 (j := l.length) (Nat.le_refl _) (fun i hi _ => ?_)]
 ·simp [jbq]
 ·have h4 := hok.nodes l[i] (List.getElem_mem hi)
  have h5 := hok.secs l[i] (List.getElem_mem hi)
  refine ⟨?_, ?_⟩
  ·simp [jc6, jaV]; omega
  ·simp [jb9]; omega
theorem jcb {n s : Nat} {l : List Edg} (hok : jaL n l) (hs : s < n) : jay n l s = 0 ∧ jaq n l s = jan n l s := by
 have h : jay n l s = 0 := by
  have h1 := jiZ hok
  unfold jay jaV
  simp [h1, hs]
 exact ⟨h, by rw [jaq, if_pos h]; simp⟩
structure TS where
 at_ : Nat
 now : Int
 load : Int
 driven : Int
def y5 (t : q9) (N : List Value) (s : TS) : List Value := k5 t ++ N ++ [I s.at_, I s.now, I s.load, I s.driven]
def jdW (d : Int) : Int := if d < 0 then 15 else 0
def jiE (d : Int) (v : Nat) (s : TS) : TS := ⟨v, s.now + d, s.load, s.driven + d⟩
def ja6 (m : Nat) (A B C : Option Addr) (ll tl nl ca cb cc : Nat) (hd : Int) : List Value := [I m, .slice A ll ca, .slice B tl cb, .slice C nl cc, I hd]
theorem jgB (g m v : Nat) (A B C : Option Addr) (l : List Edg) (tl nl ca cb cc : Nat) (hd : Int) (t : q9) (s : TS) (w0 : World) (S : List Nat) (hok : jaL m l) (hv : v < m) (hs : s.at_ < m) (hb : -1000000000000 ≤ s.now ∧ s.now ≤ 1000000000000 ∧ -1000000000000 ≤ s.driven ∧ s.driven ≤ 1000000000000)
  (hz : ja3 w0 A l) (hA : l ≠ [] → Off A S) (H0 : SH w0 S w0 [⟨g, 83, y5 t (ja6 m A B C l.length tl nl ca cb cc hd) s⟩]) :
  Calls Tryz.prog 97 #[.pointer (some ⟨g, 0, none⟩), I v] w0 fun e w' => e = .returned (I (jdW (x9 m l s.at_ v))) ∧ (0 ≤ x9 m l s.at_ v → SH w0 S w' [⟨g, 83, y5 t (ja6 m A B C l.length tl nl ca cb cc hd) (jiE (x9 m l s.at_ v) v s)⟩]) ∧ ∃ L, SH w0 S w' L := by
 have H := H0
 have hbd := jca hok hs hv
 obtain ⟨hte, htl⟩ := jcb hok hs
 have htn := jau m l s.at_
 unfold y5 k5 ja6 at H
 simp only [List.cons_append, List.nil_append] at H
 refine Calls.ofWP Tryz.func97 rfl Tryz.results97 Tryz.ntmps97 rfl<|Y.qr<|Y.bz rfl<|Y.q ?_
 refine WP.rheldC [5, 6, 7, 8, 9, 10, 11, 12, 13, 14, 15, 16, 17, 18, 19] (fun u w' => ∃ (TA : Option Addr) (Lc : List Blk), u 5 = .slice TA (jaq m l s.at_).length (jaq m l s.at_).length ∧ u 6 = I (jay m l s.at_) ∧ jg5 3 I TA (jaq m l s.at_) Lc ∧ SH w0 S w' ([⟨g, 83, y5 t (ja6 m A B C l.length tl nl ca cb cc hd) s⟩] ++ Lc)) mixed H ?_ ?_
 ·clear H; intro w hbw1 H
  refine Y.t 0 H rfl rfl (fun w H => Ev.mvP rfl)<|Y.t 1 H rfl rfl (fun w H => Ev.nilCheckP rfl)<|Y.tf 2 H rfl<|Y.tf 3 H rfl<|Y.t 4 H rfl rfl (fun w H => Ev.loadN [_, _] (j6 rfl) (j4 rfl) rfl ⟨H.ldL 0 rfl _ rfl, H.ldL 0 rfl _ rfl, trivial⟩)<|Y.t 5 H rfl rfl (fun w H => Ev.mvP rfl)<|Y.t 6 H rfl rfl (fun w H => Ev.nilCheckP rfl)<|Y.tf 7 H rfl<|Y.tl 8 H 0 rfl<|Y.A1 9 rfl rfl<|Y.c2 17 rfl (jfe m s.at_ A l ca _ (rowsS hz hA H)) ?_
  rintro _ w ⟨TA, Lc, rfl, hOL, Hc⟩
  refine ⟨_, rfl, ?_⟩
  have Hf : SH w0 S w ([_] ++ Lc) := SH.call (L1 := [_]) (Lv := []) H Hc
  clear H Hc
  have H := Hf.drop Y.sl
  refine Y.z <| ⟨(H), ?_⟩
  refine Y.t 10 H rfl rfl (fun w H => Ev.mvT rfl)<|Y.t 11 H rfl rfl (fun w H => Ev.extract rfl rfl)<|Y.t 12 H rfl rfl (fun w H => Ev.extract rfl rfl)<|Y.t 13 H rfl rfl (fun w H => Ev.asS rfl)<|Y.t 14 H rfl rfl (fun w H => Ev.asI rfl)<|Y.dn ?_
  exact ⟨Y.ag, TA, Lc, rfl, rfl, hOL, Hf⟩
 clear H
 rintro u w ⟨TA, Lc, h5, h6, hOL, H⟩
 refine WP.know (t := 5) h5 (WP.know (t := 6) h6 ?_)
 unfold y5 k5 ja6 at H
 simp only [List.cons_append, List.nil_append] at H
 rw [htl] at hOL
 have htv : (jan m l s.at_)[v]'(by omega) = x9 m l s.at_ v := jbG (by omega)
 have hvl : v < (jaq m l s.at_).length := by rw [htl]; omega
 have hrd : ∀ (w : World) (B : Blk), SH w0 S w ([B] ++ Lc) → jaa I w TA (jan m l s.at_) := fun w B H => hOL.rd H (fun b hb => List.mem_append_right _ hb)
 obtain ⟨bt, ot, rfl, _⟩ := hrd w _ H v (by omega)
 have hx0 := (hrd w _ H).atK (show v < (jan m l s.at_).length by omega)
 rw [htv] at hx0
 refine Y.q<|WP.block<|Y.qr<|Y.a rfl<|Y.V rfl<|Y.aB rfl<|Y.z ?_
 refine WP.cond rfl (fun hc2 => ?_) (fun hc2 => ?_)
 ·refine Y.qr<|Y.a rfl<|Y.bz rfl ?_
  refine WP.ret ⟨_, rfl, ?_⟩
  exact absurd hc2 (by rw [hte]; simp)
 refine Y.qr<|Y.sS rfl<|Y.a rfl<|Y.I rfl<|Y.v (Y.c (by assumption) rfl) ?_
 refine Y.lt rfl<|Y.aB rfl<|Y.z ?_
 refine WP.cond rfl (fun hc4 => ?_) (fun hc4 => ?_)
 ·refine Y.qr<|Y.bz rfl ?_
  refine WP.ret ⟨_, rfl, ?_⟩
  have hd0 : x9 m l s.at_ v < 0 := by simpa using hc4
  exact ⟨by rw [jdW, if_pos hd0]; rfl, fun h => absurd h (by omega), _, H⟩
 have hd0 : ¬ x9 m l s.at_ v < 0 := by simpa using hc4
 refine Y.k<|Y.qr<|Y.D rfl<|Y.a rfl<|Y.C rfl<|Y.F rfl<|Y.ss 0 H rfl (cI rfl) rfl ?_
 clear H; intro w H
 refine Y.z<|Y.q<|WP.rtail 11 mixed (by kernel_rfl) H ?_
 clear H; intro w hbw7 H
 refine Y.D rfl<|Y.C rfl<|Y.W H 0 rfl<|Y.sS rfl<|Y.a rfl<|Y.I rfl ?_
 have hxm := (hrd w _ H).atK (show v < (jan m l s.at_).length by omega)
 rw [htv] at hxm
 refine Y.v (Y.c (by assumption) rfl) ?_
 refine Y.P rfl<|Y.C rfl<|Y.F rfl<|OPS.nil_s<|Y.ss 0 H rfl (cI rfl) rfl ?_
 clear H; intro w H
 refine Y.z<|Y.q<|WP.rtail 11 mixed (by kernel_rfl) H ?_
 clear H; intro w hbw8 H
 refine Y.D rfl<|Y.C rfl<|Y.W H 0 rfl<|Y.sS rfl<|Y.a rfl<|Y.I rfl ?_
 have hxm := (hrd w _ H).atK (show v < (jan m l s.at_).length by omega)
 rw [htv] at hxm
 refine Y.v (Y.c (by assumption) rfl) ?_
 refine Y.P rfl<|Y.C rfl<|Y.F rfl<|OPS.nil_s<|Y.ss 0 H rfl (cI rfl) rfl ?_
 clear H; intro w H
 refine Y.z<|Y.qr<|Y.bz rfl ?_
 refine WP.ret ⟨_, rfl, ?_⟩
 exact ⟨by rw [jdW, if_neg hd0]; rfl, fun _ => H.drop (L' := [_]) (List.Sublist.cons_cons _ Y.sn), _, H⟩
end Go.Proofs.YtgcokllbophkkaaGreat
