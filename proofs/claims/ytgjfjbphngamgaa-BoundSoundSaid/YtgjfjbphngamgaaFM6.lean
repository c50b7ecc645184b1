/-
  Plain: the potentials after a search, and after a push along its tree.
-/
import Derived.Test.YtgjfjbphngamgaaFM5
set_option linter.all false
namespace Go.Proofs.Ytgjfjbphngamgaa.Flo
open Go Go.W

/-- the potentials of a list -/
abbrev potF (pots : List Int) : Int → Int := fun u => pots.getD u.toNat 0
def newL (sts : List Step) (dist : List Int) (F : Int) (pots : List Int) : List Int := (List.range pots.length).map fun v => pots.getD v 0 + (if kn sts v = true then dAt dist v else F)
theorem newL_length (sts : List Step) (dist : List Int) (F : Int) (pots : List Int) : (newL sts dist F pots).length = pots.length := by simp [newL]
theorem newL_at {sts : List Step} {dist : List Int} {F : Int} {pots : List Int} {v : Nat} (h : v < pots.length) : (newL sts dist F pots).getD v 0 = pots.getD v 0 + (if kn sts v = true then dAt dist v else F) := by
  simp [newL, h]
/-- the greatest distance of the nodes known, of the first k -/
def farTo (sts : List Step) (dist : List Int) : Nat → Int
  | 0 => 0
  | k + 1 => if kn sts k = true then (if farTo sts dist k < dAt dist k then dAt dist k else farTo sts dist k) else farTo sts dist k
theorem farTo_spec (sts : List Step) (dist : List Int) : ∀ k, 0 ≤ farTo sts dist k ∧ (∀ v, v < k → kn sts v = true → dAt dist v ≤ farTo sts dist k) ∧ (farTo sts dist k = 0 ∨ ∃ v, v < k ∧ kn sts v = true ∧ farTo sts dist k = dAt dist v)
  | 0 => ⟨Int.le_refl _, fun v hv => absurd hv (by omega), .inl rfl⟩
  | k + 1 => by
    obtain ⟨h0, h1, h2⟩ := farTo_spec sts dist k
    unfold farTo
    have lift : ∀ x, (x = 0 ∨ ∃ v, v < k ∧ kn sts v = true ∧ x = dAt dist v) → (x = 0 ∨ ∃ v, v < k + 1 ∧ kn sts v = true ∧ x = dAt dist v) := fun x hx => hx.imp id fun ⟨v, q1, q2⟩ => ⟨v, by omega, q2⟩
    split
    · rename_i hk
      split
      · rename_i hlt
        refine ⟨by omega, fun v hv hkv => ?_, .inr ⟨k, by omega, hk, rfl⟩⟩
        rcases Nat.lt_succ_iff_lt_or_eq.1 hv with hv | rfl
        · have := h1 v hv hkv; omega
        · exact Int.le_refl _
      · rename_i hlt
        refine ⟨h0, fun v hv hkv => ?_, lift _ h2⟩
        rcases Nat.lt_succ_iff_lt_or_eq.1 hv with hv | rfl
        · exact h1 v hv hkv
        · omega
    · rename_i hk
      refine ⟨h0, fun v hv hkv => ?_, lift _ h2⟩
      rcases Nat.lt_succ_iff_lt_or_eq.1 hv with hv | rfl
      · exact h1 v hv hkv
      · exact absurd hkv hk
section
variable {pots : List Int} {l : List Arc} {on : List Int} {n s : Nat} {sts : List Step} {dist : List Int} {rk : Nat → Int}
theorem rc_new {F : Int} {i u v : Nat} {w : Int} {fw : Bool} {r : Int} (hl : pots.length = n) (hE : REdge (potF pots) l on i fw u v r w) (hu : u < n) (hv : v < n) (h : i < l.length) :
    (fw = true → rc (potF (newL sts dist F pots)) l[i] = w + (if kn sts u = true then dAt dist u else F) - (if kn sts v = true then dAt dist v else F)) ∧
    (fw = false → rc (potF (newL sts dist F pots)) l[i] = -(w + (if kn sts u = true then dAt dist u else F) - (if kn sts v = true then dAt dist v else F))) := by
  obtain ⟨_, _, a, b⟩ := hE
  have e1 := newL_at (sts := sts) (dist := dist) (F := F) (show u < pots.length by omega)
  have e2 := newL_at (sts := sts) (dist := dist) (F := F) (show v < pots.length by omega)
  refine ⟨fun hf => ?_, fun hf => ?_⟩
  · obtain ⟨h1, h2, _, _, h3⟩ := a hf
    unfold rc at h3 ⊢
    rw [h1, h2] at h3 ⊢
    simp only [potF, Int.toNat_natCast] at h3 ⊢
    rw [e1, e2]; omega
  · obtain ⟨h1, h2, _, _, h3⟩ := b hf
    unfold rc at h3 ⊢
    rw [h1, h2] at h3 ⊢
    simp only [potF, Int.toNat_natCast] at h3 ⊢
    rw [e1, e2]; omega
theorem redge_of (hn : NodesOk n l) {i : Nat} (h : i < l.length) (h2 : i < on.length) (p : Int → Int) : ∃ a b : Nat, a < n ∧ b < n ∧ l[i].f = a ∧ l[i].t = b ∧ (on[i] < l[i].cap → REdge p l on i true a b (l[i].cap - on[i]) (rc p l[i])) ∧ (0 < on[i] → REdge p l on i false b a on[i] (-rc p l[i])) := by
  obtain ⟨⟨q1, q2⟩, q3, q4⟩ := hn l[i] (List.getElem_mem h)
  obtain ⟨a, ha⟩ := Int.eq_ofNat_of_zero_le q1
  obtain ⟨b, hb⟩ := Int.eq_ofNat_of_zero_le q3
  exact ⟨a, b, by omega, by omega, ha, hb, fun hc => ⟨h, h2, fun _ => ⟨ha, hb, rfl, hc, rfl⟩, fun q => by cases q⟩, fun hc => ⟨h, h2, (fun q => by cases q), fun _ => ⟨hb, ha, rfl, hc, rfl⟩⟩⟩
/-- the new potentials prove the old flow, too -/
theorem near_opt (hnr : Near (potF pots) l on n s sts dist rk) (ho : OptPot (potF pots) l on) (hn : NodesOk n l) (hl : pots.length = n) {F : Int} (hF : ∀ v, v < n → kn sts v = true → dAt dist v ≤ F) : OptPot (potF (newL sts dist F pots)) l on := by
  intro i h h2
  obtain ⟨a, b, ha, hb, hfa, htb, e1, e2⟩ := redge_of hn h h2 (potF pots)
  have key : ∀ (fw : Bool) (u v : Nat) (r w : Int), u < n → v < n → REdge (potF pots) l on i fw u v r w → 0 ≤ w + (if kn sts u = true then dAt dist u else F) - (if kn sts v = true then dAt dist v else F) := by
    intro fw u v r w hu hv hE
    have hw := hE.nonneg ho
    by_cases hku : kn sts u = true
    · obtain ⟨q1, q2⟩ := hnr.clo i fw u v r w hE hu hv hku
      rw [if_pos hku, if_pos q1]; omega
    · rw [if_neg hku]
      by_cases hkv : kn sts v = true
      · rw [if_pos hkv]; have := hF v hv hkv; omega
      · rw [if_neg hkv]; omega
  refine ⟨fun hc => ?_, fun hc => ?_⟩
  · rw [(rc_new hl (e1 hc) ha hb h).1 rfl]; exact key _ _ _ _ _ ha hb (e1 hc)
  · rw [(rc_new hl (e2 hc) hb ha h).2 rfl]; have := key _ _ _ _ _ hb ha (e2 hc); omega
theorem Path.known (hnr : Near (potF pots) l on n s sts dist rk) : ∀ (ks : List Nat) (v : Nat), Path rk l on n s sts ks v → kn sts v = true → ∀ x ∈ ks, x < n ∧ x ≠ s ∧ kn sts x = true
  | [], _, _, _, x, hx => by cases hx
  | y :: ks, v, ⟨h1, h2, h3, p, hp, _, hE, hP⟩, hk, x, hx => by
    rcases List.mem_cons.1 hx with rfl | hx
    · subst h1; exact ⟨h3, h2, hk⟩
    · refine Path.known hnr ks p hP ?_ x hx
      obtain ⟨u, i, fw, r, w, q1, q2, q3, q4, _⟩ := hnr.par v h3 hk h2
      obtain ⟨e1, _⟩ := hE
      rw [q4] at e1
      have : u = p := by simp at e1; omega
      rw [← this]; exact q2
theorem pushOn_at (sts : List Step) (M : Int) (i : Nat) : ∀ (ks : List Nat) (on : List Int), (pushOn sts ks M on).getD i 0 = on.getD i 0 ∨ ∃ x ∈ ks, (sts.getD x default).arc.toNat = i
  | [], on => .inl rfl
  | k :: ks, on => by
    have e : pushOn sts (k :: ks) M on = pushOn sts ks M (push1 sts M on k) := rfl
    rw [e]
    rcases pushOn_at sts M i ks (push1 sts M on k) with h | ⟨x, hx, h⟩
    · by_cases hk : (sts.getD k default).arc.toNat = i
      · exact .inr ⟨k, List.mem_cons_self .., hk⟩
      · refine .inl ?_
        rw [h]
        show (on.set (sts.getD k default).arc.toNat _).getD i 0 = on.getD i 0
        rw [List.getD_eq_getElem?_getD, List.getElem?_set_ne hk, ← List.getD_eq_getElem?_getD]
    · exact .inr ⟨x, List.mem_cons_of_mem _ hx, h⟩
/-- the new potentials prove the flow after a push along the tree -/
theorem push_opt (hnr : Near (potF pots) l on n s sts dist rk) (ho : OptPot (potF pots) l on) (hn : NodesOk n l) (hl : pots.length = n) (hlen : on.length = l.length) {F : Int} (hF : ∀ v, v < n → kn sts v = true → dAt dist v ≤ F)
    {ks : List Nat} {t : Nat} (hP : Path rk l on n s sts ks t) (hkt : kn sts t = true) (M : Int) : OptPot (potF (newL sts dist F pots)) l (pushOn sts ks M on) := by
  intro i h h2
  have h2' : i < on.length := by rw [pushOn_length] at h2; exact h2
  rcases pushOn_at sts M i ks on with he | ⟨x, hx, he⟩
  · have e : (pushOn sts ks M on)[i] = on[i] := by
      rw [List.getD_eq_getElem?_getD, List.getD_eq_getElem?_getD, List.getElem?_eq_getElem h2, List.getElem?_eq_getElem h2'] at he
      simpa using he
    rw [e]
    exact near_opt hnr ho hn hl hF i h h2'
  · obtain ⟨q1, q2, q3⟩ := Path.known hnr ks t hP hkt x hx
    obtain ⟨u, j, fw, r, w, u1, u2, u3, u4, u5, _⟩ := hnr.par x q1 q3 q2
    rw [u4] at he
    have hij : j = i := by simpa using he
    subst hij
    have hr := rc_new (sts := sts) (dist := dist) (F := F) hl u3 u1 q1 h
    rw [if_pos u2, if_pos q3] at hr
    have : rc (potF (newL sts dist F pots)) l[j] = 0 := by
      cases fw with
      | true => rw [hr.1 rfl]; omega
      | false => rw [hr.2 rfl]; omega
    rw [this]
    exact ⟨fun _ => Int.le_refl _, fun _ => Int.le_refl _⟩
/-- where t is not found, the flow is greatest -/
theorem near_isMax {amt : Int} {t : Nat} (hnr : Near (potF pots) l on n s sts dist rk) (hn : NodesOk n l) (hs : s < n) (hf : IsFlow n l s t on amt) (ht : kn sts t = false) : IsMax n l s t amt := by
  refine ⟨⟨on, hf⟩, fun u => kn sts u.toNat, by simpa using hnr.src.1, by simpa using ht, ?_⟩
  rw [← netOut_eq_cut _ l on hf.v.len fun i hi hi2 => ?_]
  · exact hf.set hn ⟨by omega, by omega⟩ (by simpa using hnr.src.1) (by simpa using ht)
  · obtain ⟨a, b, ha, hb, hfa, htb, e1, e2⟩ := redge_of hn hi hi2 (potF pots)
    have hbd := hf.v.bd i hi hi2
    rw [hfa, htb]
    simp only [Int.toNat_natCast]
    refine ⟨fun u1 u2 => ?_, fun u1 u2 => ?_⟩
    · rcases Int.lt_or_eq_of_le hbd.2 with hlt | he
      · have := (hnr.clo i true a b _ _ (e1 hlt) ha hb u1).1; rw [u2] at this; cases this
      · exact he
    · rcases Int.lt_or_eq_of_le hbd.1 with hlt | he
      · have := (hnr.clo i false b a _ _ (e2 hlt) hb ha u2).1; rw [u1] at this; cases this
      · exact he.symm
theorem farTo_le {n s : Nat} {l : List Arc} {on : List Int} {pots : List Int} {sts : List Step} {dist : List Int} {rk : Nat → Int} (hnr : Near (potF pots) l on n s sts dist rk) (hp : ∀ v, v < n → 0 ≤ pots.getD v 0) (k : Nat) (hk : k ≤ n) : farTo sts dist k ≤ 65536 * n := by
  obtain ⟨_, _, h⟩ := farTo_spec sts dist k
  rcases h with h | ⟨v, hv, hkv, h⟩
  · omega
  · have q := hnr.bd v (by omega) hkv
    have := hp v (by omega)
    simp only [potF, Int.toNat_natCast] at q
    omega
theorem sumTo_le {f g : Int → Int} : ∀ {n : Nat}, (∀ u : Int, 0 ≤ u → u < n → f u ≤ g u) → sumTo f n ≤ sumTo g n
  | 0, _ => Int.le_refl _
  | n + 1, h => by
    have := sumTo_le (f := f) (g := g) (n := n) fun u h1 h2 => h u h1 (by omega)
    have := h n (by omega) (by omega)
    simp only [sumTo]; omega
theorem sumTo_le_add {f g : Int → Int} {c : Int} {v : Nat} : ∀ {n : Nat}, v < n → (∀ u : Int, 0 ≤ u → u < n → f u ≤ g u) → f v + c ≤ g v → sumTo f n + c ≤ sumTo g n
  | 0, hv, _, _ => absurd hv (by omega)
  | n + 1, hv, h, hc => by
    simp only [sumTo]
    by_cases hvn : v = n
    · subst hvn
      have := sumTo_le (f := f) (g := g) (n := v) fun u h1 h2 => h u h1 (by omega)
      omega
    · have := sumTo_le_add (f := f) (g := g) (c := c) (v := v) (n := n) (by omega) (fun u h1 h2 => h u h1 (by omega)) hc
      have := h n (by omega) (by omega)
      omega
theorem sumTo_const (c : Int) : ∀ n : Nat, sumTo (fun _ => c) n = n * c
  | 0 => by simp [sumTo]
  | n + 1 => by simp only [sumTo]; rw [sumTo_const c n]; rw [show ((n + 1 : Nat) : Int) = n + 1 from rfl, Int.add_mul]; omega
def capS (B : Int) (pots : List Int) (n : Nat) : Int := sumTo (fun u => minI B (pots.getD u.toNat 0)) n
/-- the potentials stay small -/
structure PInv (n s : Nat) (pots : List Int) : Prop where
  len : pots.length = n
  zero : pots.getD s 0 = 0
  bd : ∀ v, v < n → 0 ≤ pots.getD v 0 ∧ pots.getD v 0 ≤ capS (65536 * n) pots n
theorem PInv.le (h : PInv n s pots) {v : Nat} (hv : v < n) : pots.getD v 0 ≤ 65536 * n * n := by
  have h1 := (h.bd v hv).2
  have h2 : capS (65536 * n) pots n ≤ sumTo (fun _ => 65536 * (n : Int)) n := sumTo_le fun u _ _ => (minI_le _ _).1
  rw [sumTo_const, show (n : Int) * (65536 * n) = 65536 * n * n from Int.mul_comm _ _] at h2
  have h3 : pots.getD v 0 ≤ capS (65536 * n) pots n := h1
  exact Int.le_trans h3 h2
theorem PInv.init (s : Nat) : PInv n s (List.replicate n 0) := by
  have hz : ∀ v : Nat, (List.replicate n (0 : Int)).getD v 0 = 0 := fun v => by
    by_cases h : v < n <;> simp [h]
  refine ⟨by simp, hz s, fun v hv => ?_⟩
  rw [hz v]
  have : sumTo (fun _ => (0 : Int)) n ≤ capS (65536 * n) (List.replicate n 0) n := sumTo_le fun u _ _ => by
    simp only [hz, minI]; split <;> omega
  rw [sumTo_zero] at this
  omega
theorem PInv.step (h : PInv n s pots) (hnr : Near (potF pots) l on n s sts dist rk) (hs : s < n) : PInv n s (newL sts dist (farTo sts dist n) pots) := by
  obtain ⟨f0, f1, f2⟩ := farTo_spec sts dist n
  generalize farTo sts dist n = F at *
  have hat : ∀ v, v < n → (newL sts dist F pots).getD v 0 = pots.getD v 0 + (if kn sts v = true then dAt dist v else F) := fun v hv => newL_at (by rw [h.len]; exact hv)
  have hkn : ∀ v, v < n → kn sts v = true → 0 ≤ dAt dist v ∧ pots.getD v 0 + dAt dist v ≤ 65536 * n := fun v hv hk => by
    have q1 := hnr.nn v hv hk
    have q2 := hnr.bd v hv hk
    simp only [potF, Int.toNat_natCast] at q2
    omega
  have hmono : ∀ u : Int, 0 ≤ u → u < n → minI (65536 * n) (pots.getD u.toNat 0) ≤ minI (65536 * n) ((newL sts dist F pots).getD u.toNat 0) := fun u hu hun => by
    have hv : u.toNat < n := by omega
    rw [hat _ hv]
    have : 0 ≤ (if kn sts u.toNat = true then dAt dist u.toNat else F) := by
      split
      · rename_i hk; exact (hkn _ hv hk).1
      · exact f0
    generalize (if kn sts u.toNat = true then dAt dist u.toNat else F) = z at this ⊢
    unfold minI; split <;> split <;> omega
  have hnn : ∀ v, v < n → 0 ≤ (newL sts dist F pots).getD v 0 := fun v hv => by
    rw [hat v hv]
    have := (h.bd v hv).1
    split
    · rename_i hk; have := (hkn v hv hk).1; omega
    · omega
  refine ⟨by rw [newL_length]; exact h.len, ?_, fun v hv => ⟨hnn v hv, ?_⟩⟩
  · rw [hat s hs, if_pos hnr.src.1, hnr.src.2, h.zero]; rfl
  · by_cases hk : kn sts v = true
    · -- its own summand
      have q := hkn v hv hk
      have e : sumTo (fun _ => (0 : Int)) n + (newL sts dist F pots).getD v 0 ≤ capS (65536 * n) (newL sts dist F pots) n := sumTo_le_add hv (fun u h1 h2 => by
          have := hnn u.toNat (by omega)
          unfold minI; split <;> omega) (by
          simp only [Int.toNat_natCast]
          rw [hat v hv, if_pos hk]
          unfold minI; split <;> omega)
      rw [sumTo_zero] at e
      omega
    · rw [hat v hv, if_neg hk]
      have hb := (h.bd v hv).2
      rcases f2 with hf | ⟨u, hu, hku, hfu⟩
      · have : capS (65536 * n) pots n ≤ capS (65536 * n) (newL sts dist F pots) n := sumTo_le hmono
        omega
      · have q := hkn u hu hku
        have : capS (65536 * n) pots n + F ≤ capS (65536 * n) (newL sts dist F pots) n := sumTo_le_add hu hmono (by
          simp only [Int.toNat_natCast]
          rw [hat u hu, if_pos hku, hfu]
          have := (h.bd u hu).1
          unfold minI; split <;> split <;> omega)
        omega
end
end Go.Proofs.Ytgjfjbphngamgaa.Flo
