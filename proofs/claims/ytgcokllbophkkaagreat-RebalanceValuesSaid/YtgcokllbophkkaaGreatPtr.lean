/-
 Pointers and functions compared with nil, slice expressions, clear.
-/
import Derived.Test.YtgcokllbophkkaaGreatFacts
set_option linter.all false
set_option maxHeartbeats 4000000
namespace Go.W
open Go.RowKit
section
variable {P : Program} {e : Env} {w : World} {ty t : TypeId} {x y : Operand}
theorem Ev.eqlPn {t' : TypeId} {el : TypeId} {a : Option Addr} (hU : ∀ w, (underlying t).run P w = .ok (.pointer el) w) (hx : ev e x = .pointer a) (hy : ev e y = .pointer none) : Ev P e w ty (.binOp .eql t x y t') (.bool a.isNone) :=
 ⟨fun w' _ o ho _ => by
  have hq : ∀ w, (Op.equal t (.pointer a) (.pointer none)).run P w = .ok a.isNone w := by
   intro w
   unfold Op.equal
   rw [show Op.maxDepth = 9999 + 1 from rfl, Op.equalIn]
   cases a <;> simp [hU]
  unfold execOp; rw [ho]; simp [hx, hy, eqGuard, binOp, hq]⟩
theorem Ev.eqlFn {t' : TypeId} {ps rs : Array TypeId} {v : Bool} {f : Fn} {fs cs : Array Value} (hU : ∀ w, (underlying t).run P w = .ok (.func ps rs v) w) (hx : ev e x = .func f fs cs) (hy : ev e y = .nilFunc) : Ev P e w ty (.binOp .eql t x y t') (.bool false) :=
 ⟨fun w' _ o ho _ => by
  have hq : ∀ w, (Op.equal t (.func f fs cs) .nilFunc).run P w = .ok false w := by
   intro w
   unfold Op.equal
   rw [show Op.maxDepth = 9999 + 1 from rfl, Op.equalIn]
   simp [hU]
  unfold execOp; rw [ho]; simp [hx, hy, eqGuard, binOp, hq]⟩
theorem Ev.sliceFrom2 {i : Operand} {el n cap j sz b o : Nat} {k : IntKind} {ii : Int} (hU : ∀ w, (underlying t).run P w = .ok (.slice el) w) (hs : ∀ w, (Go.sizeOf el).run P w = .ok sz w)
  (hx : ev e x = .slice (some ⟨b, o, none⟩) n cap) (hi : ev e i = .int k ii) (hj : ii = (j : Int)) (hle : j ≤ n) (hlt : j < cap) : Ev P e w ty (.slice t x (some i) none none) (.slice (some ⟨b, o + j * sz, none⟩) (n - j) (cap - j)) := by
 have h := Ev.sliceFrom (P := P) (w := w) (ty := ty) hU hs hx hi hj hle
 rw [if_neg (by omega), Option.map_some, addr_add] at h
 exact h
end
theorem SH.reidxT {w0 w : World} {S : List Nat} {L L' Lo : List Blk} (H : SH w0 S w (L ++ Lo)) (idx : List Nat) (hn : idx.Nodup) (hi : idx.map (fun i => L[i]?) = L'.map some) : SH w0 S w (L' ++ Lo) := by
 have h1 := (H.drop (List.sublist_append_left L Lo)).reidx idx hn hi
 have h2 := H.drop (List.sublist_append_right L Lo)
 have hmem : ∀ b ∈ L', b ∈ L := by
  intro b hb
  have h3 : some b ∈ idx.map (fun i => L[i]?) := by rw [hi]; exact List.mem_map_of_mem hb
  obtain ⟨i, _, h4⟩ := List.mem_map.1 h3
  exact List.mem_of_getElem? h4
 refine ⟨H.os, H.tape, H.output, H.size, H.low, fun b hb => ?_, fun b hb => ?_, ?_⟩
 ·rcases List.mem_append.1 hb with hb | hb
  ·exact h1.own b hb
  ·exact h2.own b hb
 ·rcases List.mem_append.1 hb with hb | hb
  ·exact h1.may b hb
  ·exact h2.may b hb
 ·have hd := H.nodup
  rw [List.map_append, List.nodup_append] at hd ⊢
  refine ⟨h1.nodup, h2.nodup, fun a ha b hb => ?_⟩
  obtain ⟨c, hc, rfl⟩ := List.mem_map.1 ha
  exact hd.2.2 c.g (List.mem_map_of_mem (hmem c hc)) b hb
theorem jmP {e : Env} {a b : Nat} {x y : Value} (h : Nat.beq a b = false) : upd (upd e a x) b y = upd (upd e b y) a x := by
 have hne : a ≠ b := fun he => by subst he; rw [Nat.beq_refl] at h; cases h
 funext j
 simp only [upd]
 cases h1 : Nat.beq j b <;> cases h2 : Nat.beq j a <;> try rfl
 exact absurd ((Nat.eq_of_beq_eq_true h2).symm.trans (Nat.eq_of_beq_eq_true h1)) hne
theorem OPH.named {P : Program} {N : Nat} {ops : Array Oper} {K : Env → World → Prop} {w0 w : World} {S : List Nat} {L : List Blk} {f f' : Nat} {ls ls' : Array Bool} {e : Env} (hf : f = f') (hl : ls = ls')
  (h : ∀ Q : Nat → Array Bool → Env → World → Prop, Q = OPH P N ops K w0 S L → Q f' ls' e w) : OPH P N ops K w0 S L f ls e w := by subst hf hl; exact h _ rfl
theorem qd {Q : Nat → Array Bool → Env → World → Prop} {f : Nat} {ls ls' : Array Bool} {e : Env} {w : World} (h : Q f ls' e w) (hl : ls = ls' := by kernel_rfl) : Q f ls e w := hl ▸ h
theorem uc {e : Env} (a b : Nat) {x y : Value} (h : Nat.beq a b = false := by rfl) : upd (upd e a x) b y = upd (upd e b y) a x := jmP h
def bb (n m : Nat) : Array Bool := ((List.range n).map fun i => m.testBit i).toArray
abbrev DQ (Q : Nat → Array Bool → Env → World → Prop) (k : Nat) (ls : Array Bool) (w0 : World) (S : List Nat) (L : List Blk) (e : Env) : Prop := ∀ w, SH w0 S w L → Q k ls e w
abbrev vS (g n : Nat) : Value := .slice (some ⟨g, 0, none⟩) n n
abbrev vP (g : Nat) : Value := .pointer (some ⟨g, 0, none⟩)
theorem SH.rx {w0 w : World} {S : List Nat} {L L' : List Blk} (H : SH w0 S w L) (ix : List Nat) (h1 : ix.Nodup := by decide) (h2 : ix.map (fun i => L[i]?) = L'.map some := by rfl) : SH w0 S w L' := H.reidx ix h1 h2
section
variable {P : Program} {N : Nat} {ops : Array Oper} {K : Env → World → Prop} {e : Env} {w w0 : World} {S : List Nat} {L : List Blk} {rest : List Oper} {o : Oper} {t : TypeId} {x y : Operand}
theorem OPS.actv {v : Value} {w' : World} (hg : o.guard = none) (hd : o.dst = none) (hr : (execOp (ev e) o).run P w = .ok (.value v) w')
  (h : OPS P N .plain ops K rest e w') : OPS P N .plain ops K (o :: rest) e w :=
 ⟨fun a h1 h2 h3 => by
  have hn := h.run a h1 h2 h3
  rw [← h1, ← jbW] at hr
  simp only at hn ⊢
  unfold wpList
  rw [if_pos (ja1 hg _)]
  refine .inl ?_
  unfold Oper.wp
  rw [hr]
  simp only [Oper.upon, hd, Act.put]
  exact hn⟩
theorem OPS.clear {el n c : Nat} {z : Value} {b : Blk} {zs : List Value} (i k : Nat) (hg : o.guard = none) (hd : o.dst = none)
  (hop : o.op = .call { callee := .builtin .clear, args := #[x], argTypes := #[t] }) (hU : ∀ w, (underlying t).run P w = .ok (.slice el) w) (hz : ∀ w, (zeroValue el).run P w = .ok z w) (hzs : z.cells = zs.toArray) (hz0 : 0 < zs.length)
  (h1 : (zs.all (·.oneCell')) = true) (hx : ev e x = .slice (some ⟨b.g, k, none⟩) n c) (hn : 0 < n) (H : SH w0 S w L) (hi : L[i]? = some b) (hk : k + n * zs.length ≤ b.cs.length)
  (h : ∀ w', SH w0 S w' (L.set i ⟨b.g, b.T, jam b.cs k (mkL n zs)⟩) → OPS P N .plain ops K rest e w') : OPS P N .plain ops K (o :: rest) e w := by
 have hm1 : ((mkL n zs).all (·.oneCell')) = true := by
  rw [List.all_eq_true] at h1 ⊢
  intro v hv
  rw [mkL, List.mem_flatten] at hv
  obtain ⟨l, hl, hv⟩ := hv
  rw [List.eq_of_mem_replicate hl] at hv
  exact h1 v hv
 obtain ⟨w', hr, H'⟩ := jdX (P := P) (mkL n zs) w L b k 0 H hi (by rw [jdm]; omega) hm1
 refine OPS.actv (v := .tuple #[]) (w' := w') hg hd ?_ (h w' H')
 have hzc : (Builtin.zeroCells z.cells n).toList = mkL n zs := by
  rw [hzs]
  have := jjK n hz0
  simp only [Builtin.zeroCells] at *
  exact congrArg Array.toList this
 obtain ⟨m, rfl⟩ : ∃ m, n = m + 1 := ⟨n - 1, by omega⟩
 unfold execOp; rw [hop]
 simp [resolve, invoke, builtin, hx, Builtin.clear_, hU, hz, hzc, hr]
end
end Go.W
namespace Go.W
open Go.RowKit
def jg5 {α : Type} (T : TypeId) (enc : α → Value) (A : Option Addr) (l : List α) (L : List Blk) : Prop := (A = none ∧ l = [] ∧ L = []) ∨ ∃ g, A = some ⟨g, 0, none⟩ ∧ L = [⟨g, T, l.map enc⟩]
theorem jg5.nil {α : Type} {T : TypeId} {enc : α → Value} : jg5 T enc none ([] : List α) [] := .inl ⟨rfl, rfl, rfl⟩
theorem jg5.mk {α : Type} {T : TypeId} {enc : α → Value} (g : Nat) (l : List α) : jg5 T enc (some ⟨g, 0, none⟩) l [⟨g, T, l.map enc⟩] := .inr ⟨g, rfl, rfl⟩
theorem jg5.rd {α : Type} {T : TypeId} {enc : α → Value} {A : Option Addr} {l : List α} {L L' : List Blk} {w0 w : World} {S : List Nat} (h : jg5 T enc A l L) (H : SH w0 S w L') (hs : ∀ b ∈ L, b ∈ L') : jaa enc w A l := by
 rcases h with ⟨rfl, rfl, rfl⟩ | ⟨g, rfl, rfl⟩
 ·exact jaa.nil
 ·intro k hk
  refine ⟨g, 0, rfl, ?_⟩
  obtain ⟨i, hi⟩ := List.getElem?_of_mem (hs ⟨g, T, l.map enc⟩ (by simp))
  rw [Nat.zero_add]
  refine H.ldL i hi k ?_
  show (l.map enc)[k]? = _
  rw [List.getElem?_map, List.getElem?_eq_getElem hk]; rfl
section
variable {P : Program} {N : Nat} {ops : Array Oper} {K : Env → World → Prop} {e : Env} {w w0 : World} {S : List Nat} {L : List Blk} {rest : List Oper} {o : Oper} {t : TypeId} {x y : Operand}
theorem jho {el sz n cap cx : Nat} {A Ax : Option Addr} {ty : TypeId} (hU : ∀ w, (underlying t).run P w = .ok (.slice el) w) (hs : ∀ w, (Go.sizeOf el).run P w = .ok sz w) (hle : n ≤ cap) (w : World) :
  (Builtin.append_ #[t, t] ty #[.slice A n cap, .slice Ax 0 cx]).run P w = .ok (.slice A n cap) w := by
 unfold Builtin.append_
 have hz : (loadCells · 0 : Addr → Sem (Array Value)) = fun _ => pure #[] := by funext a; rfl
 cases A <;> cases Ax <;> simp [hU, hs, Builtin.lenOf, Builtin.firstCells, hle, loadCells, loadCellsFrom, storeCells]
theorem OPS.appendE {d el sz bt n m cap cx : Nat} {ty2 : Array TypeId} {A Ax : Option Addr} {zs xs news : List Value} {Lo R : List Blk} (hg : o.guard = none) (hd : o.dst = some d) (hN : Nat.blt d N = true)
  (hop : o.op = .call { callee := .builtin .append, args := #[x, y], argTypes := ty2 }) (hty : ty2 = #[t, t]) (hf : jaG P t el sz bt zs)
  (hx : ev e x = .slice A n cap) (hy : ev e y = .slice Ax m cx) (hO : OwnS A cap n xs el sz Lo) (hl : news.length = m * sz) (hs : m = 0 ∨ ∃ b o, Ax = some ⟨b, o, none⟩ ∧ jak w b o news) (h1 : (news.all (·.oneCell')) = true)
  (hbd : (n + m) * bt ≤ 140737488355328) (hbd2 : n + m ≤ maxLen) (H : SH w0 S w L) (hp : L.Perm (R ++ Lo))
  (h : ∀ A' cap' Lo' w', OwnS A' cap' (n + m) (xs ++ news) el sz Lo' → SH w0 S w' (R ++ Lo') → OPS P N .plain ops K rest (upd e d (.slice A' (n + m) cap')) w') : OPS P N .plain ops K (o :: rest) e w := by
 rcases hs with rfl | hs
 ·have hn0 : news = [] := List.length_eq_zero_iff.1 (by rw [hl]; simp)
  subst hn0
  have hle : n ≤ cap := by rcases hO.form with ⟨_, q, _, _⟩ | ⟨_, _, _, _, q, _, _⟩ <;> omega
  have hsz : ∀ w, (Go.sizeOf el).run P w = .ok sz w := fun w => by
   obtain ⟨i, z, i1, i2, i3, i4, i5⟩ := hf.info
   have ht : (typeInfo el).run P w = .ok i w := by unfold typeInfo program; simp only [Sem.run_bind, Sem.run, Result.andThen_ok, i1, Sem.run_pure]
   unfold Go.sizeOf; simp only [Sem.run_bind, ht, Result.andThen_ok, i3, Sem.run_pure]
  refine OPS.act (v := .slice A n cap) (w' := w) hg hd hN ?_ (h A cap Lo w (by simpa using hO) (H.perm hp))
  unfold execOp; rw [hop, hty]
  simp only [resolve, Sem.run_bind, Sem.run_pure, Result.andThen_ok, invoke, builtin]
  have := jho (P := P) (t := t) (ty := o.type) (A := A) (Ax := Ax) (cx := cx) hf.undRun hsz hle w
  simp [hx, hy, this]
 ·exact OPS.append hg hd hN hop hty hf hx hy hO hl hs h1 hbd hbd2 H hp h
end
end Go.W
namespace Go.Proofs.YtgcokllbophkkaaGreat
open Go Go.W
structure Edg where
 f : Int
 t : Int
 secs : Int
instance : Inhabited Edg := ⟨⟨0, 0, 0⟩⟩
def jah (a : Edg) : List Value := [I a.f, I a.t, I a.secs]
theorem jgZ (a : Edg) : (jah a).length = 3 := rfl
abbrev ja3 := k8 3 jah
def jaV (n k : Int) : Bool := decide (0 ≤ k) && decide (k < n)
def jc6 (n : Int) (a : Edg) : Bool := (!jaV n a.f) || (!jaV n a.t)
def jb9 (a : Edg) : Bool := decide (a.secs < 1) || decide (1000 < a.secs)
def jbq (n : Int) : List Edg → Int
 | [] => 0
 | a :: l => if jc6 n a = true then 7 else if jb9 a = true then 1 else jbq n l
def jax (n : Int) (l : List Edg) : Int := if (decide (n < 1) || decide (64 < n)) = true then 1 else if (512 : Int) < l.length then 8 else jbq n l
theorem ja8 {n : Int} {l : List Edg} : ∀ {j : Nat}, j ≤ l.length → (∀ i (hi : i < l.length), i < j → jc6 n l[i] = false ∧ jb9 l[i] = false) → jbq n l = jbq n (l.drop j)
 | 0, _, _ => rfl
 | j + 1, hj, h => by
  rw [ja8 (j := j) (by omega) (fun i hi hij => h i hi (by omega)), List.drop_eq_getElem_cons (show j < l.length by omega), jbq]
  have := h j (by omega) (by omega)
  simp [this.1, this.2]
theorem jej {n : Int} : ∀ {l : List Edg}, jbq n l = 0 → ∀ a ∈ l, jc6 n a = false ∧ jb9 a = false
 | [], _, a, ha => by cases ha
 | b :: l, h, a, ha => by
  rw [jbq] at h
  split at h
  ·cases h
  ·rename_i h1
   split at h
   ·cases h
   ·rename_i h2
    rcases List.mem_cons.1 ha with rfl | ha
    ·exact ⟨by simpa using h1, by simpa using h2⟩
    ·exact jej h a ha
structure jaL (n : Nat) (l : List Edg) : Prop where
 n1 : 1 ≤ n
 n2 : n ≤ 64
 len : l.length ≤ 512
 nodes : ∀ a ∈ l, (0 ≤ a.f ∧ a.f < n) ∧ (0 ≤ a.t ∧ a.t < n)
 secs : ∀ a ∈ l, 1 ≤ a.secs ∧ a.secs ≤ 1000
theorem je3 {n : Int} {l : List Edg} (h : jax n l = 0) : ∃ m : Nat, n = m ∧ jaL m l := by
 unfold jax at h
 split at h
 ·cases h
 ·rename_i h1
  split at h
  ·cases h
  ·rename_i h2
   have h1 : 1 ≤ n ∧ n ≤ 64 := by simp at h1; omega
   obtain ⟨m, rfl⟩ := Int.eq_ofNat_of_zero_le (show 0 ≤ n by omega)
   refine ⟨m, rfl, by omega, by omega, by simp at h2; omega, fun a ha => ?_, fun a ha => ?_⟩
   ·have := (jej h a ha).1
    simp [jc6, jaV] at this; omega
   ·have := (jej h a ha).2
    simp [jb9] at this; omega
def jb3 (l : List Edg) (i u v : Nat) (w : Int) : Prop := ∃ h : i < l.length, l[i].f = u ∧ l[i].t = v ∧ l[i].secs = w
inductive jbO (l : List Edg) (s : Nat) : Nat → Int → Prop
 | nil : jbO l s s 0
 | step {u v i : Nat} {c w : Int} : jbO l s u c → jb3 l i u v w → jbO l s v (c + w)
theorem jnf {P : Nat → Prop} : ∀ (n : Nat), P n → ∃ m, P m ∧ ∀ k, P k → m ≤ k := by
 intro n
 induction n using Nat.strongRecOn with
 | _ n ih =>
  intro hn
  by_cases h : ∃ k, k < n ∧ P k
  ·obtain ⟨k, hk, hp⟩ := h
   exact ih k hk hp
  ·exact ⟨n, hn, fun k hk => Nat.le_of_not_lt fun hlt => h ⟨k, hlt, hk⟩⟩
structure RD (l : List Edg) (n s : Nat) (K : Nat → Bool) (D : Nat → Int) : Prop where
 src : K s = true ∧ D s = 0
 clo : ∀ i u v w, jb3 l i u v w → u < n → v < n → K u = true → K v = true ∧ D v ≤ D u + w
 par : ∀ v, v < n → K v = true → v ≠ s → ∃ u i w, u < n ∧ K u = true ∧ jb3 l i u v w ∧ D v = D u + w
 nn : ∀ v, v < n → K v = true → 0 ≤ D v
section
variable {l l' : List Edg} {n s : Nat} {K K' : Nat → Bool} {D D' : Nat → Int}
theorem jb3.pos (h : jaL n l) {i u v : Nat} {w : Int} (hE : jb3 l i u v w) : 1 ≤ w ∧ w ≤ 1000 ∧ u < n ∧ v < n := by
 obtain ⟨hi, h1, h2, h3⟩ := hE
 have q1 := h.secs l[i] (List.getElem_mem hi)
 have q2 := h.nodes l[i] (List.getElem_mem hi)
 omega
theorem jbO.nn (h : jaL n l) {v : Nat} {c : Int} (hw : jbO l s v c) : 0 ≤ c := by
 induction hw with
 | nil => exact Int.le_refl _
 | step _ hE ih => have := hE.pos h; omega
open Classical in
theorem jd0 (h : jaL n l) (hs : s < n) : ∃ K D, RD l n s K D := by
 have hleast : ∀ v, (∃ c, jbO l s v c) → ∃ c, jbO l s v c ∧ ∀ c', jbO l s v c' → c ≤ c' := fun v ⟨c, hc⟩ => by
  have h0 := hc.nn h
  obtain ⟨c, rfl⟩ := Int.eq_ofNat_of_zero_le h0
  obtain ⟨m, hm, hl⟩ := jnf (P := fun k : Nat => jbO l s v k) c hc
  refine ⟨m, hm, fun c' hc' => ?_⟩
  obtain ⟨c', rfl⟩ := Int.eq_ofNat_of_zero_le (hc'.nn h)
  have := hl c' hc'
  omega
 let D : Nat → Int := fun v => if hv : ∃ c, jbO l s v c then (hleast v hv).choose else 0
 have hD : ∀ v (hv : ∃ c, jbO l s v c), jbO l s v (D v) ∧ ∀ c', jbO l s v c' → D v ≤ c' := fun v hv => by
  have : D v = (hleast v hv).choose := by simp only [D]; rw [dif_pos hv]
  rw [this]; exact (hleast v hv).choose_spec
 have hK : ∀ v, decide (∃ c, jbO l s v c) = true ↔ ∃ c, jbO l s v c := fun v => decide_eq_true_iff
 refine ⟨fun v => decide (∃ c, jbO l s v c), D, ⟨(hK s).2 ⟨0, .nil⟩, ?_⟩, fun i u v w hE hu hv hk => ?_, fun v hv hk hvs => ?_, fun v hv hk => ((hD v ((hK v).1 hk)).1).nn h⟩
 ·have h1 := (hD s ⟨0, .nil⟩).2 0 .nil
  have h2 := ((hD s ⟨0, .nil⟩).1).nn h
  omega
 ·have h1 := (hD u ((hK u).1 hk)).1
  have h2 := jbO.step h1 hE
  exact ⟨(hK v).2 ⟨_, h2⟩, (hD v ⟨_, h2⟩).2 _ h2⟩
 ·obtain ⟨h1, h2⟩ := hD v ((hK v).1 hk)
  generalize hc : D v = c at h1 h2
  cases h1 with
  | nil => exact absurd rfl hvs
  | @step u _ i c w hw hE =>
   have hu : ∃ c, jbO l s u c := ⟨_, hw⟩
   obtain ⟨h3, h4⟩ := hD u hu
   have h5 := h4 _ hw
   have h6 := h2 _ (jbO.step h3 hE)
   exact ⟨u, i, w, (hE.pos h).2.2.1, (hK u).2 hu, hE, by omega⟩
theorem RD.le (h : jaL n l) (h1 : RD l n s K D) (h2 : RD l' n s K' D') (hsub : ∀ i u v w, jb3 l i u v w → ∃ i', jb3 l' i' u v w) : ∀ v, v < n → K v = true → K' v = true ∧ D' v ≤ D v := by
 have key : ∀ (m : Nat) (v : Nat), v < n → K v = true → D v ≤ m → K' v = true ∧ D' v ≤ D v := by
  intro m
  induction m with
  | zero =>
   intro v hv hk hm
   by_cases hvs : v = s
   ·subst hvs; exact ⟨h2.src.1, by rw [h2.src.2, h1.src.2]; exact Int.le_refl _⟩
   ·obtain ⟨u, i, w, hu, hku, hE, hd⟩ := h1.par v hv hk hvs
    have := h1.nn u hu hku
    have := hE.pos h
    omega
  | succ m ih =>
   intro v hv hk hm
   by_cases hvs : v = s
   ·subst hvs; exact ⟨h2.src.1, by rw [h2.src.2, h1.src.2]; exact Int.le_refl _⟩
   ·obtain ⟨u, i, w, hu, hku, hE, hd⟩ := h1.par v hv hk hvs
    have hp := hE.pos h
    obtain ⟨q1, q2⟩ := ih u hu hku (by omega)
    obtain ⟨i', hE'⟩ := hsub i u v w hE
    obtain ⟨q3, q4⟩ := h2.clo i' u v w hE' hu hv q1
    exact ⟨q3, by omega⟩
 intro v hv hk
 exact key (D v).toNat v hv hk (by omega)
theorem RD.unique (h : jaL n l) (h1 : RD l n s K D) (h2 : RD l n s K' D') : ∀ v, v < n → K v = K' v ∧ (K v = true → D v = D' v) := fun v hv => by
 have a := h1.le h h2 (fun i u v w hE => ⟨i, hE⟩) v hv
 have b := h2.le h h1 (fun i u v w hE => ⟨i, hE⟩) v hv
 cases hk : K v with
 | true => have q1 := a hk; have q2 := b q1.1; exact ⟨q1.1.symm, fun _ => by omega⟩
 | false =>
  refine ⟨?_, fun q => by cases q⟩
  cases hk' : K' v with
  | true => have := (b hk').1; rw [hk] at this; cases this
  | false => rfl
end
end Go.Proofs.YtgcokllbophkkaaGreat
namespace Go.Proofs.YtgcokllbophkkaaGreat.Y
open Go Go.W Go.RowKit
theorem ag {M : List Nat} {e' e : Env} (h : Agree M e' e := by repeat (first | exact Agree.refl _ _ | exact Agree.mix _ _ _ | refine Agree.upd rfl ?_ | refine Agree.mix2 rfl ?_)) : Agree M e' e := h
section
variable {w0 w : World} {S : List Nat} {L : List Blk} {a b c x : Blk}
theorem d1 (H : SH w0 S w (a :: L)) : SH w0 S w L := H.drop (List.sublist_cons_self _ _)
theorem d2 (H : SH w0 S w (a :: b :: L)) : SH w0 S w L := d1 (d1 H)
end
section
variable {N : Nat} {md : Md} {ops : Array Oper} {K : Env → World → Prop} {e : Env} {w w0 : World} {S : List Nat} {L : List Blk} {rest : List Oper} {d : Nat} {ty t : TypeId} {pos : String} {aft : Array Edge} {x1 y1 : Operand}
theorem v {op : Op} {v : Value} (hE : Ev Tryz.prog e w ty op v) (h : OPS Tryz.prog N md ops K rest (upd e d v) w) (hN : Nat.blt d N = true := by rfl) : OPS Tryz.prog N md ops K ({ dst := some d, op := op, type := ty, pos := pos, after := aft, guard := none } :: rest) e w := OPS.val rfl rfl hN hE h
theorem g {op : Op} {v : Value} {j dj : Nat} {want b : Bool} (hj : ops[j]?.bind (·.dst) = some dj) (hb : e dj = .bool b) (hE : b = want → Ev Tryz.prog e w ty op v) (h : OPS Tryz.prog N md ops K rest (upd e d (gv b want v)) w) (hN : Nat.blt d N = true := by rfl) : OPS Tryz.prog N md ops K ({ dst := some d, op := op, type := ty, pos := pos, after := aft, guard := some (j, want) } :: rest) e w := OPS.gval rfl hj hb rfl hN hE h
theorem m {k : IntKind} {n : Int} (hx : ev e x1 = .int k n) : Ev Tryz.prog e w ty (.move x1) (.int k n) := Ev.mvI hx
theorem f {s k off b o : Nat} (hp : jnB s k = some off) (ha : ev e x1 = .pointer (some ⟨b, o, none⟩)) : Ev Tryz.prog e w ty (.fieldAddr s x1 k) (.pointer (some ⟨b, o + off, none⟩)) := Ev.fieldAddr (jaf hp) ha
theorem l {g k : Nat} {T : TypeId} {cs : List Value} {v : Value} (H : SH w0 S w L) (i : Nat) (ha : ev e x1 = .pointer (some ⟨g, k, none⟩)) (hi : L[i]? = some ⟨g, T, cs⟩) (hk : cs[k]? = some v) (hA : jjj t = some false := by rfl) : Ev Tryz.prog e w ty (.load t x1) v := Ev.load1 (j6 hA) ha (H.ldL i hi k hk)
theorem c {a : Addr} {v : Value} (hc : w.cell? a = some v) (ha : ev e x1 = .pointer (some a)) (hA : jjj t = some false := by rfl) : Ev Tryz.prog e w ty (.load t x1) v := Ev.load1 (j6 hA) ha hc
theorem o {g : Nat} {T : TypeId} {cs : List Value} (H : SH w0 S w L) (i : Nat) (ha : ev e x1 = .pointer (some ⟨g, 0, none⟩)) (hi : L[i]? = some ⟨g, T, cs⟩) (hA : jjj t = some true := by rfl) (hl : jfw t = some cs.length := by rfl) : Ev Tryz.prog e w ty (.load t x1) (.agg cs.toArray) := Ev.loadO i H hi (j6 hA) (j4 hl) rfl ha
theorem x {el b o n cap j : Nat} {k : IntKind} {ii : Int} (hu : elT t = some el) (hx : ev e x1 = .slice (some ⟨b, o, none⟩) n cap) (hi : ev e y1 = .int k ii) (hj : ii = (j : Int)) (hlt : j < n := by omega) (hs : jfw el = some 1 := by rfl) : Ev Tryz.prog e w ty (.indexAddr t x1 y1) (.pointer (some ⟨b, o + j, none⟩)) := Ev.indexAddr1 (x7 hu) (j4 hs) hx hi hj hlt
theorem X {el sz b o n cap j : Nat} {k : IntKind} {ii : Int} (hu : elT t = some el) (hs : jfw el = some sz) (hx : ev e x1 = .slice (some ⟨b, o, none⟩) n cap) (hi : ev e y1 = .int k ii) (hj : ii = (j : Int)) (hlt : j < n := by omega) : Ev Tryz.prog e w ty (.indexAddr t x1 y1) (.pointer (some ⟨b, o + j * sz, none⟩)) := Ev.indexAddr (x7 hu) (j4 hs) hx hi hj hlt
theorem n {el n cap : Nat} {A : Option Addr} (hx : ev e x1 = .slice A n cap) (hu : elT t = some el := by rfl) : Ev Tryz.prog e w ty (.call { callee := .builtin .len, args := #[x1], argTypes := #[t] }) (.int .i64 n) := Ev.len (x7 hu) hx
theorem p {t' : TypeId} {a b : Int} (hx : ev e x1 = .int .i64 a) (hy : ev e y1 = .int .i64 b) (h : fits (a + b) := by unfold fits; omega) : Ev Tryz.prog e w ty (.binOp .add t x1 y1 t') (.int .i64 (a + b)) := Ev.add hx hy h
theorem s {t' : TypeId} {a b : Int} (hx : ev e x1 = .int .i64 a) (hy : ev e y1 = .int .i64 b) (h : fits (a - b) := by unfold fits; omega) : Ev Tryz.prog e w ty (.binOp .sub t x1 y1 t') (.int .i64 (a - b)) := Ev.sub hx hy h
theorem st {vs : List Value} {k g : Nat} {T : TypeId} {cs : List Value} (i : Nat) (H : SH w0 S w L) (hx : ev e x1 = .pointer (some ⟨g, k, none⟩)) (hv : (ev e y1).cells = vs.toArray) (hi : L[i]? = some ⟨g, T, cs⟩)
    (h : ∀ w', SH w0 S w' (L.set i ⟨g, T, jam cs k vs⟩) → OPS Tryz.prog N .plain ops K rest e w') (hs : jfw t = some vs.length := by rfl) (h1 : (vs.all (·.oneCell')) = true := by rfl) (hk : k + vs.length ≤ cs.length := by simp) : OPS Tryz.prog N .plain ops K ({ dst := none, op := .store t x1 y1, type := ty, pos := pos, after := aft, guard := none } :: rest) e w :=
  OPS.store (b := ⟨g, T, cs⟩) i k rfl rfl rfl (j4 hs) hx hv rfl h1 H hi hk h
theorem bx {cs : List Value} (hx : (ev e x1).cells = cs.toArray) (H : SH w0 S w L) (h : ∀ g w', SH w0 S w' (⟨g, t, cs⟩ :: L) → OPS Tryz.prog N .plain ops K rest (upd e d (.pointer (some ⟨g, 0, none⟩))) w') (hN : Nat.blt d N = true := by rfl) : OPS Tryz.prog N .plain ops K ({ dst := some d, op := .box t x1, type := ty, pos := pos, after := aft, guard := none } :: rest) e w := OPS.box rfl rfl hN rfl hx H h
theorem z (h : K e w) : OPS Tryz.prog N .plain ops K [] e w := OPS.nil h
theorem al {z : Value} {cs : List Value} (H : SH w0 S w L) (hz : zeroT t = some z) (hx : z.cells = cs.toArray) (h : ∀ g w', SH w0 S w' (⟨g, t, cs⟩ :: L) → OPS Tryz.prog N .plain ops K rest (upd e d (.pointer (some ⟨g, 0, none⟩))) w') (hN : Nat.blt d N = true := by rfl) : OPS Tryz.prog N .plain ops K ({ dst := some d, op := .alloc t, type := ty, pos := pos, after := aft, guard := none } :: rest) e w :=
  OPS.alloc rfl rfl hN rfl (jd7 hz) hx H h
theorem a {k : IntKind} {n : Int} (hx : ev e x1 = .int k n) (h : OPS Tryz.prog N md ops K rest (upd e d (.int k n)) w) (hN : Nat.blt d N = true := by rfl) : OPS Tryz.prog N md ops K ({ dst := some d, op := .move x1, type := ty, pos := pos, after := aft, guard := none } :: rest) e w := v (m hx) h hN
theorem b {k : IntKind} {n : Int} (hx : ev e x1 = .int k n) (h : OPS Tryz.prog N md ops K rest (upd e d (.int k n)) w) (hN : Nat.blt d N = true := by rfl) : OPS Tryz.prog N md ops K ({ dst := some d, op := .assign x1, type := ty, pos := pos, after := aft, guard := none } :: rest) e w := v (Ev.asI hx) h hN
theorem fa {s k off b o : Nat} (hp : jnB s k = some off) (ha : ev e x1 = .pointer (some ⟨b, o, none⟩)) (h : OPS Tryz.prog N md ops K rest (upd e d (.pointer (some ⟨b, o + off, none⟩))) w) (hN : Nat.blt d N = true := by rfl) : OPS Tryz.prog N md ops K ({ dst := some d, op := .fieldAddr s x1 k, type := ty, pos := pos, after := aft, guard := none } :: rest) e w := v (f hp ha) h hN
theorem j {g k : Nat} {T : TypeId} {cs : List Value} {v : Value} (H : SH w0 S w L) (i : Nat) (ha : ev e x1 = .pointer (some ⟨g, k, none⟩)) (hi : L[i]? = some ⟨g, T, cs⟩) (hk : cs[k]? = some v) (h : OPS Tryz.prog N md ops K rest (upd e d v) w) (hN : Nat.blt d N = true := by rfl) (hA : jjj t = some false := by rfl) : OPS Tryz.prog N md ops K ({ dst := some d, op := .load t x1, type := ty, pos := pos, after := aft, guard := none } :: rest) e w := Y.v (l H i ha hi hk hA) h hN
theorem y {j dj : Nat} {want b : Bool} (hj : ops[j]?.bind (·.dst) = some dj) (hb : e dj = .bool b) (H : SH w0 S w L) (i : Nat) {g c : Nat} {T : TypeId} {cs : List Value} {v : Value} (ha : b = want → ev e x1 = .pointer (some ⟨g, c, none⟩)) (hi : L[i]? = some ⟨g, T, cs⟩) (hk : cs[c]? = some v) (h : OPS Tryz.prog N md ops K rest (upd e d (gv b want v)) w) (hN : Nat.blt d N = true := by rfl) (hA : jjj t = some false := by rfl) : OPS Tryz.prog N md ops K ({ dst := some d, op := .load t x1, type := ty, pos := pos, after := aft, guard := some (j, want) } :: rest) e w := Y.g hj hb (fun hg => Ev.load1 (j6 hA) (ha hg) (H.ldL i hi c hk)) h hN
theorem mk {el sz bt m : Nat} {n : Int} {k k' : IntKind} {zs : List Value} (H : SH w0 S w L) (hf : jaG Tryz.prog t el sz bt zs)
    (h : ∀ g w', SH w0 S w' (⟨g, el, mkL m zs⟩ :: L) → OPS Tryz.prog N .plain ops K rest (upd e d (.slice (some ⟨g, 0, none⟩) m m)) w') (hN : Nat.blt d N = true := by rfl) (hx : ev e x1 = .int k n := by first | rfl | assumption) (hy : ev e y1 = .int k' n := by first | rfl | assumption) (hn : n = (m : Int) := by rfl) (hb : bt * m ≤ 140737488355328 := by omega) (hm : m ≤ 9223372036854775807 := by omega) : OPS Tryz.prog N .plain ops K ({ dst := some d, op := .makeSlice t x1 y1, type := ty, pos := pos, after := aft, guard := none } :: rest) e w :=
  OPS.makeSlice rfl rfl hN rfl hf hx hy hn hb hm H h
theorem ss {vs : List Value} {k g n : Nat} {T : TypeId} {cs : List Value} {L' : List Blk} (i : Nat) (H : SH w0 S w L) (hx : ev e x1 = .pointer (some ⟨g, k, none⟩)) (hv : (ev e y1).cells = vs.toArray) (hi : L[i]? = some ⟨g, T, cs⟩)
    (h : ∀ w', SH w0 S w' L' → OPS Tryz.prog N .plain ops K rest e w') (hs : jfw t = some n := by rfl) (hn : vs.length = n := by rfl) (hL : L.set i ⟨g, T, jam cs k vs⟩ = L' := by first | (simp only [List.set_cons_zero, List.set_cons_succ, jam, Nat.zero_add] <;> rfl) | rfl) (h1 : (vs.all (·.oneCell')) = true := by rfl) (hk : k + n ≤ cs.length := by simp) : OPS Tryz.prog N .plain ops K ({ dst := none, op := .store t x1 y1, type := ty, pos := pos, after := aft, guard := none } :: rest) e w :=
  OPS.store (b := ⟨g, T, cs⟩) i k rfl rfl rfl (j4 hs) hx hv hn h1 H hi hk (hL ▸ h)
end
section
variable {N : Nat} {ops : Array Oper} {K : Env → World → Prop} {e : Env} {w w0 : World} {S : List Nat} {L : List Blk} {fuel f : Nat} {listed : Array Bool}
theorem t (i : Nat) {d : Nat} {op : Op} {ty : TypeId} {pos : String} {aft : Array Edge} {v : Value} (H : SH w0 S w L) (hi : ops[i]? = some { dst := some d, op := op, type := ty, pos := pos, after := aft, guard := none }) (hfu : fuel = f + 1) (hE : ∀ w', SH w0 S w' L → Ev Tryz.prog e w' ty op v)
    (h : OPH Tryz.prog N ops K w0 S L f (listed.setIfInBounds i true) (upd e d v) w) (hN : Nat.blt d N = true := by rfl) (hs : Region.noSelect ops = true := by kernel_rfl) (hf : Region.free .any ops listed i = true := by kernel_rfl) (hr : (Region.ready .any ops listed).contains i = true := by kernel_rfl) : OPH Tryz.prog N ops K w0 S L fuel listed e w :=
  OPH.take i hi rfl rfl hN hs hf hr hfu H hE h
def All {α : Type} (p : α → Prop) : List α → Prop
  | [] => True
  | a :: l => p a ∧ All p l
theorem jkj {α : Type} {p : α → Prop} : ∀ {l : List α}, All p l → ∀ a ∈ l, p a
  | [], _, a, h => by cases h
  | b :: l, h, a, ha => by
    rcases List.mem_cons.1 ha with rfl | ha
    · exact h.1
    · exact jkj h.2 a ha
theorem A (rs : List Nat) (hfu : fuel = f + 1) (h : All (fun i => ∃ o, ops[i]? = some o ∧ OPS Tryz.prog N .plain ops (fun e' w' => SH w0 S w' L ∧ OPH Tryz.prog N ops K w0 S L f (listed.setIfInBounds i true) e' w') [o] e w) rs) (hr : Region.ready .any ops listed = rs := by kernel_rfl) (hne : rs ≠ [] := by simp) : OPH Tryz.prog N ops K w0 S L fuel listed e w :=
  OPH.all rs hr hne hfu (jkj h)
theorem dn (h : K e w) (hr : Region.ready .any ops listed = [] := by kernel_rfl) : OPH Tryz.prog N ops K w0 S L fuel listed e w := OPH.done hr h
theorem A1 (i : Nat) {o : Oper} (hfu : fuel = f + 1) (ho : ops[i]? = some o) (h : OPS Tryz.prog N .plain ops (fun e' w' => SH w0 S w' L ∧ OPH Tryz.prog N ops K w0 S L f (listed.setIfInBounds i true) e' w') [o] e w) (hr : Region.ready .any ops listed = [i] := by kernel_rfl) : OPH Tryz.prog N ops K w0 S L fuel listed e w :=
  A [i] hfu ⟨⟨o, ho, h⟩, trivial⟩ hr
theorem A2 (i i2 : Nat) {o o2 : Oper} (hfu : fuel = f + 1) (ho : ops[i]? = some o) (ho2 : ops[i2]? = some o2) (h : OPS Tryz.prog N .plain ops (fun e' w' => SH w0 S w' L ∧ OPH Tryz.prog N ops K w0 S L f (listed.setIfInBounds i true) e' w') [o] e w) (h2 : OPS Tryz.prog N .plain ops (fun e' w' => SH w0 S w' L ∧ OPH Tryz.prog N ops K w0 S L f (listed.setIfInBounds i2 true) e' w') [o2] e w) (hr : Region.ready .any ops listed = [i, i2] := by kernel_rfl) : OPH Tryz.prog N ops K w0 S L fuel listed e w :=
  A [i, i2] hfu ⟨⟨o, ho, h⟩, ⟨o2, ho2, h2⟩, trivial⟩ hr
end
section
variable {N : Nat} {Kn : Env → World → Prop} {Kx : Nat → Env → World → Prop} {Kr : Env → World → Prop} {e : Env} {w : World} {id : Nat}
theorem q {x y : Code} (h : WP Tryz.prog N x (fun e w => WP Tryz.prog N y Kn Kx Kr e w) Kx Kr e w) : WP Tryz.prog N (.seq x y) Kn Kx Kr e w := WP.seq h
theorem r {l : List Oper} (h : OPS Tryz.prog N .plain l.toArray Kn l e w) : WP Tryz.prog N (.region id l.toArray false) Kn Kx Kr e w := WP.region h
theorem qr {l : List Oper} {y : Code} (h : OPS Tryz.prog N .plain l.toArray (fun e w => WP Tryz.prog N y Kn Kx Kr e w) l e w) : WP Tryz.prog N (.seq (.region id l.toArray false) y) Kn Kx Kr e w := WP.seq (WP.region h)
theorem k (h : Kn e w) : WP Tryz.prog N .skip Kn Kx Kr e w := WP.skip h
end
section
variable {N : Nat} {ops : Array Oper} {Kn : Env → World → Prop} {Kx : Nat → Env → World → Prop} {e : Env} {w w0 : World} {S : List Nat} {L : List Blk} {rest : List Oper} {o : Oper}
theorem sc {α : Type} {a : α} {l : List α} : l.Sublist (a :: l) := List.sublist_cons_self _ _
theorem sl {α : Type} {l l' : List α} : l.Sublist (l ++ l') := List.sublist_append_left _ _
theorem sr {α : Type} {l l' : List α} : l'.Sublist (l ++ l') := List.sublist_append_right _ _
theorem sn {α : Type} {l : List α} : ([] : List α).Sublist l := List.nil_sublist _
theorem c2 (d : Nat) {f : FuncId} {xs : List Operand} {tys : Array TypeId} {R : Ending → World → Prop} (hop : o.op = .call { callee := .value (.func f), args := xs.toArray, argTypes := tys }) (hC : Calls Tryz.prog f (xs.map (ev e)).toArray w R)
    (h : ∀ e' w', R e' w' → ∃ v, e' = .returned v ∧ OPS Tryz.prog N .plain ops Kn rest (updo e (some d) v) w') (hg : o.guard = none := by rfl) (hd : o.dst = some d := by rfl) (hN : Nat.blt d N = true := by rfl) (hf : jhU f = true := by rfl) : OPS Tryz.prog N .plain ops Kn (o :: rest) e w :=
  OPS.call (d := some d) hg hd hN (by rw [hop]; exact EvC.func (z7 hf)) hC h
theorem cl (d : Nat) {f : FuncId} {xs : List Operand} {tys : Array TypeId} {v : Value} (hop : o.op = .call { callee := .value (.func f), args := xs.toArray, argTypes := tys }) (hC : Calls Tryz.prog f (xs.map (ev e)).toArray w fun e' w' => e' = .returned v ∧ Below w.heap.size w w')
    (H : SH w0 S w L) (h : ∀ w', SH w0 S w' L → OPS Tryz.prog N .plain ops Kn rest (updo e (some d) v) w') (hg : o.guard = none := by rfl) (hd : o.dst = some d := by rfl) (hN : Nat.blt d N = true := by rfl) (hf : jhU f = true := by rfl) : OPS Tryz.prog N .plain ops Kn (o :: rest) e w :=
  c2 d hop hC (fun e' w' ⟨he, hb⟩ => ⟨v, he, h w' (H.toBelow hb)⟩) hg hd hN hf
theorem R {l : List ResultVar} {v : Value} {Q : Ending → World → Prop} (hv : jiU e l = some v) (h : Q (.returned v) w) : WP Tryz.prog N .ret Kn Kx (fun e w => ∃ v, jiU e l = some v ∧ Q (.returned v) w) e w := WP.ret ⟨v, hv, h⟩
theorem i {c : Operand} {x y : Code} {b : Bool} {Kr : Env → World → Prop} (hc : ev e c = .bool b) (ht : b = true → WP Tryz.prog N x Kn Kx Kr e w) (hf : b = false → WP Tryz.prog N y Kn Kx Kr e w) : WP Tryz.prog N (.cond c x y) Kn Kx Kr e w := WP.cond hc ht hf
end
section
variable {N : Nat} {md : Md} {ops : Array Oper} {K : Env → World → Prop} {e : Env} {w w0 : World} {S : List Nat} {L : List Blk} {rest : List Oper} {d : Nat} {ty t t' : TypeId} {pos : String} {aft : Array Edge} {x1 y1 c1 : Operand} {a b : Int} {k : IntKind} {A : Option Addr}
theorem pr {α β : Type} {a a' : α} {b b' : β} (h : (a, b) = (a', b')) : a = a' ∧ b = b' := by injection h with h1 h2; exact ⟨h1, h2⟩
theorem F {s k off b o : Nat} (hp : (ev e x1, jnB s k) = (.pointer (some ⟨b, o, none⟩), some off)) (h : OPS Tryz.prog N md ops K rest (upd e d (.pointer (some ⟨b, o + off, none⟩))) w) (hN : Nat.blt d N = true := by rfl) : OPS Tryz.prog N md ops K ({ dst := some d, op := .fieldAddr s x1 k, type := ty, pos := pos, after := aft, guard := none } :: rest) e w := Y.fa (pr hp).2 (pr hp).1 h hN
theorem J {g k : Nat} {T : TypeId} {cs : List Value} {v : Value} (H : SH w0 S w L) (i : Nat) (ha : (ev e x1, L[i]?, cs[k]?, jjj t) = (.pointer (some ⟨g, k, none⟩), some ⟨g, T, cs⟩, some v, some false)) (h : OPS Tryz.prog N md ops K rest (upd e d v) w) (hN : Nat.blt d N = true := by rfl) : OPS Tryz.prog N md ops K ({ dst := some d, op := .load t x1, type := ty, pos := pos, after := aft, guard := none } :: rest) e w :=
  Y.j H i (pr ha).1 (pr (pr ha).2).1 (pr (pr (pr ha).2).2).1 h hN (pr (pr (pr ha).2).2).2
theorem W {d2 : Nat} {ty2 : TypeId} {pos2 : String} {aft2 : Array Edge} {s k off g o : Nat} {T : TypeId} {cs : List Value} {v : Value} (H : SH w0 S w L) (i : Nat) (ha : (ev e x1, jnB s k, L[i]?, cs[o + off]?, jjj t) = (.pointer (some ⟨g, o, none⟩), some off, some ⟨g, T, cs⟩, some v, some false)) (h : OPS Tryz.prog N md ops K rest (upd (upd e d (.pointer (some ⟨g, o + off, none⟩))) d2 v) w) (hN : Nat.blt d N = true := by rfl) (hN2 : Nat.blt d2 N = true := by rfl) : OPS Tryz.prog N md ops K ({ dst := some d, op := .fieldAddr s x1 k, type := ty, pos := pos, after := aft, guard := none } :: { dst := some d2, op := .load t (.tmp d), type := ty2, pos := pos2, after := aft2, guard := none } :: rest) e w :=
  Y.fa (pr (pr ha).2).1 (pr ha).1 (Y.j H i (by simp [ev, upd, Nat.beq_eq_true_eq]) (pr (pr (pr ha).2).2).1 (pr (pr (pr (pr ha).2).2).2).1 h hN2 (pr (pr (pr (pr ha).2).2).2).2) hN
theorem P (hx : (ev e x1, ev e y1) = (.int .i64 a, .int .i64 b)) (h : OPS Tryz.prog N md ops K rest (upd e d (.int .i64 (a + b))) w) (hN : Nat.blt d N = true := by rfl) (hf : fits (a + b) := by unfold fits; omega) : OPS Tryz.prog N md ops K ({ dst := some d, op := .binOp .add t x1 y1 t', type := ty, pos := pos, after := aft, guard := none } :: rest) e w := Y.v (Y.p (pr hx).1 (pr hx).2 hf) h hN
theorem Q (hx : (ev e x1, ev e y1) = (.int .i64 a, .int .i64 b)) (h : OPS Tryz.prog N md ops K rest (upd e d (.int .i64 (a - b))) w) (hN : Nat.blt d N = true := by rfl) (hf : fits (a - b) := by unfold fits; omega) : OPS Tryz.prog N md ops K ({ dst := some d, op := .binOp .sub t x1 y1 t', type := ty, pos := pos, after := aft, guard := none } :: rest) e w := Y.v (Y.s (pr hx).1 (pr hx).2 hf) h hN
theorem lt (hx : (ev e x1, ev e y1) = (.int k a, .int k b)) (h : OPS Tryz.prog N md ops K rest (upd e d (.bool (decide (a < b)))) w) (hN : Nat.blt d N = true := by rfl) : OPS Tryz.prog N md ops K ({ dst := some d, op := .binOp .lss t x1 y1 t', type := ty, pos := pos, after := aft, guard := none } :: rest) e w := Y.v (Ev.lss (pr hx).1 (pr hx).2) h hN
theorem V (hx : (ev e x1, ev e y1) = (.int k a, .int k b)) (h : OPS Tryz.prog N md ops K rest (upd e d (.bool (!decide (a = b)))) w) (hN : Nat.blt d N = true := by rfl) : OPS Tryz.prog N md ops K ({ dst := some d, op := .binOp .neq t x1 y1 t', type := ty, pos := pos, after := aft, guard := none } :: rest) e w := Y.v (Ev.neq (pr hx).1 (pr hx).2) h hN
theorem sS {n c : Nat} (hx : ev e x1 = .slice A n c) (h : OPS Tryz.prog N md ops K rest (upd e d (.slice A n c)) w) (hN : Nat.blt d N = true := by rfl) : OPS Tryz.prog N md ops K ({ dst := some d, op := .move x1, type := ty, pos := pos, after := aft, guard := none } :: rest) e w := Y.v (Ev.mvS hx) h hN
theorem aS {n c : Nat} (hx : ev e x1 = .slice A n c) (h : OPS Tryz.prog N md ops K rest (upd e d (.slice A n c)) w) (hN : Nat.blt d N = true := by rfl) : OPS Tryz.prog N md ops K ({ dst := some d, op := .assign x1, type := ty, pos := pos, after := aft, guard := none } :: rest) e w := Y.v (Ev.asS hx) h hN
theorem aB {c : Bool} (hx : ev e x1 = .bool c) (h : OPS Tryz.prog N md ops K rest (upd e d (.bool c)) w) (hN : Nat.blt d N = true := by rfl) : OPS Tryz.prog N md ops K ({ dst := some d, op := .assign x1, type := ty, pos := pos, after := aft, guard := none } :: rest) e w := Y.v (Ev.asB hx) h hN
theorem B {c : Bool} (hx : ev e x1 = .bool c) (h : OPS Tryz.prog N md ops K rest (upd e d (.bool c)) w) (hN : Nat.blt d N = true := by rfl) : OPS Tryz.prog N md ops K ({ dst := some d, op := .move x1, type := ty, pos := pos, after := aft, guard := none } :: rest) e w := Y.v (Ev.mvB hx) h hN
theorem D (hx : ev e x1 = .pointer A) (h : OPS Tryz.prog N md ops K rest (upd e d (.pointer A)) w) (hN : Nat.blt d N = true := by rfl) : OPS Tryz.prog N md ops K ({ dst := some d, op := .move x1, type := ty, pos := pos, after := aft, guard := none } :: rest) e w := Y.v (Ev.mvP hx) h hN
theorem C {a : Addr} (hx : ev e x1 = .pointer (some a)) (h : OPS Tryz.prog N md ops K rest (upd e d (.pointer (some a))) w) (hN : Nat.blt d N = true := by rfl) : OPS Tryz.prog N md ops K ({ dst := some d, op := .nilCheck x1, type := ty, pos := pos, after := aft, guard := none } :: rest) e w := Y.v (Ev.nilCheckP hx) h hN
theorem T {vs : Array Value} (hx : ev e x1 = .tuple vs) (h : OPS Tryz.prog N md ops K rest (upd e d (.tuple vs)) w) (hN : Nat.blt d N = true := by rfl) : OPS Tryz.prog N md ops K ({ dst := some d, op := .move x1, type := ty, pos := pos, after := aft, guard := none } :: rest) e w := Y.v (Ev.mvT hx) h hN
theorem G {vs : Array Value} {k : Nat} {u : Value} (hx : (ev e x1, vs[k]?) = (.tuple vs, some u)) (h : OPS Tryz.prog N md ops K rest (upd e d u) w) (hN : Nat.blt d N = true := by rfl) : OPS Tryz.prog N md ops K ({ dst := some d, op := .extract x1 k, type := ty, pos := pos, after := aft, guard := none } :: rest) e w := Y.v (Ev.extract (pr hx).1 (pr hx).2) h hN
theorem E {el n cap : Nat} (hx : (ev e x1, elT t) = (.slice A n cap, some el)) (h : OPS Tryz.prog N md ops K rest (upd e d (.int .i64 n)) w) (hN : Nat.blt d N = true := by rfl) : OPS Tryz.prog N md ops K ({ dst := some d, op := .call { callee := .builtin .len, args := #[x1], argTypes := #[t] }, type := ty, pos := pos, after := aft, guard := none } :: rest) e w := Y.v (Y.n (pr hx).1 (pr hx).2) h hN
theorem O {g : Nat} {T : TypeId} {cs : List Value} (H : SH w0 S w L) (i : Nat) (ha : (ev e x1, L[i]?, jjj t, jfw t) = (.pointer (some ⟨g, 0, none⟩), some ⟨g, T, cs⟩, some true, some cs.length)) (h : OPS Tryz.prog N md ops K rest (upd e d (.agg cs.toArray)) w) (hN : Nat.blt d N = true := by rfl) : OPS Tryz.prog N md ops K ({ dst := some d, op := .load t x1, type := ty, pos := pos, after := aft, guard := none } :: rest) e w :=
  Y.v (Y.o H i (pr ha).1 (pr (pr ha).2).1 (pr (pr (pr ha).2).2).1 (pr (pr (pr ha).2).2).2) h hN
theorem I {el b o n cap j : Nat} {ii : Int} (hx : (elT t, ev e x1, ev e y1, ii, jfw el) = (some el, .slice (some ⟨b, o, none⟩) n cap, .int k ii, (j : Int), some 1)) (h : OPS Tryz.prog N md ops K rest (upd e d (.pointer (some ⟨b, o + j, none⟩))) w) (hN : Nat.blt d N = true := by rfl) (hlt : j < n := by omega) : OPS Tryz.prog N md ops K ({ dst := some d, op := .indexAddr t x1 y1, type := ty, pos := pos, after := aft, guard := none } :: rest) e w :=
  Y.v (Y.x (pr hx).1 (pr (pr hx).2).1 (pr (pr (pr hx).2).2).1 (pr (pr (pr (pr hx).2).2).2).1 hlt (pr (pr (pr (pr hx).2).2).2).2) h hN
theorem U {el sz b o n cap j : Nat} {ii : Int} (hx : (elT t, jfw el, ev e x1, ev e y1, ii) = (some el, some sz, .slice (some ⟨b, o, none⟩) n cap, .int k ii, (j : Int))) (h : OPS Tryz.prog N md ops K rest (upd e d (.pointer (some ⟨b, o + j * sz, none⟩))) w) (hN : Nat.blt d N = true := by rfl) (hlt : j < n := by omega) : OPS Tryz.prog N md ops K ({ dst := some d, op := .indexAddr t x1 y1, type := ty, pos := pos, after := aft, guard := none } :: rest) e w :=
  Y.v (Y.X (pr hx).1 (pr (pr hx).2).1 (pr (pr (pr hx).2).2).1 (pr (pr (pr (pr hx).2).2).2).1 (pr (pr (pr (pr hx).2).2).2).2 hlt) h hN
theorem po {b u : Bool} (hx : (ev e c1, ev e x1, ev e y1) = (.bool b, .bool true, gv b false (.bool u))) (h : OPS Tryz.prog N md ops K rest (upd e d (.bool (b || u))) w) (hN : Nat.blt d N = true := by rfl) : OPS Tryz.prog N md ops K ({ dst := some d, op := .pick c1 x1 y1, type := ty, pos := pos, after := aft, guard := none } :: rest) e w := Y.v (Ev.pickOr (pr hx).1 (pr (pr hx).2).1 (pr (pr hx).2).2) h hN
theorem pa {b u : Bool} (hx : (ev e c1, ev e x1, ev e y1) = (.bool b, gv b true (.bool u), .bool false)) (h : OPS Tryz.prog N md ops K rest (upd e d (.bool (b && u))) w) (hN : Nat.blt d N = true := by rfl) : OPS Tryz.prog N md ops K ({ dst := some d, op := .pick c1 x1 y1, type := ty, pos := pos, after := aft, guard := none } :: rest) e w := Y.v (Ev.pickAnd (pr hx).1 (pr (pr hx).2).1 (pr (pr hx).2).2) h hN
theorem gf {j dj : Nat} {want q : Bool} {s k off b o : Nat} (hx : (ops[j]?.bind (·.dst), e dj, jnB s k, ev e x1) = (some dj, .bool q, some off, .pointer (some ⟨b, o, none⟩))) (h : OPS Tryz.prog N md ops K rest (upd e d (gv q want (.pointer (some ⟨b, o + off, none⟩)))) w) (hN : Nat.blt d N = true := by rfl) : OPS Tryz.prog N md ops K ({ dst := some d, op := .fieldAddr s x1 k, type := ty, pos := pos, after := aft, guard := some (j, want) } :: rest) e w :=
  Y.g (pr hx).1 (pr (pr hx).2).1 (fun _ => Y.f (pr (pr (pr hx).2).2).1 (pr (pr (pr hx).2).2).2) h hN
theorem gm {j dj : Nat} {want q : Bool} {n : Int} (hx : (ops[j]?.bind (·.dst), e dj, ev e x1) = (some dj, .bool q, .int k n)) (h : OPS Tryz.prog N md ops K rest (upd e d (gv q want (.int k n))) w) (hN : Nat.blt d N = true := by rfl) : OPS Tryz.prog N md ops K ({ dst := some d, op := .move x1, type := ty, pos := pos, after := aft, guard := some (j, want) } :: rest) e w :=
  Y.g (pr hx).1 (pr (pr hx).2).1 (fun _ => Y.m (pr (pr hx).2).2) h hN
theorem yy {j dj : Nat} {want q : Bool} (H : SH w0 S w L) (i : Nat) {g c : Nat} {T : TypeId} {cs : List Value} {v : Value} (hx : (ops[j]?.bind (·.dst), e dj, ev e x1, L[i]?, cs[c]?, jjj t) = (some dj, .bool q, gv q want (.pointer (some ⟨g, c, none⟩)), some ⟨g, T, cs⟩, some v, some false)) (h : OPS Tryz.prog N md ops K rest (upd e d (gv q want v)) w) (hN : Nat.blt d N = true := by rfl) : OPS Tryz.prog N md ops K ({ dst := some d, op := .load t x1, type := ty, pos := pos, after := aft, guard := some (j, want) } :: rest) e w :=
  Y.y (pr hx).1 (pr (pr hx).2).1 H i (fun hg => gvE hg (pr (pr (pr hx).2).2).1) (pr (pr (pr (pr hx).2).2).2).1 (pr (pr (pr (pr (pr hx).2).2).2).2).1 h hN (pr (pr (pr (pr (pr hx).2).2).2).2).2
theorem M {el sz bt m : Nat} {n : Int} {k k' : IntKind} {zs : List Value} (H : SH w0 S w L) (hf : slT t = some (el, sz, bt, zs))
    (h : ∀ g w', SH w0 S w' (⟨g, el, mkL m zs⟩ :: L) → OPS Tryz.prog N .plain ops K rest (upd e d (.slice (some ⟨g, 0, none⟩) m m)) w') (hN : Nat.blt d N = true := by rfl) (hx : ev e x1 = .int k n := by first | rfl | assumption) (hy : ev e y1 = .int k' n := by first | rfl | assumption) (hn : n = (m : Int) := by rfl) (hb : bt * m ≤ 140737488355328 := by omega) (hm : m ≤ 9223372036854775807 := by omega) : OPS Tryz.prog N .plain ops K ({ dst := some d, op := .makeSlice t x1 y1, type := ty, pos := pos, after := aft, guard := none } :: rest) e w :=
  Y.mk H (z8 hf) h hN hx hy hn hb hm
theorem bz {n : Int} (hx : ev e x1 = .int k n) (h : K (upd e d (.int k n)) w) (hN : Nat.blt d N = true := by rfl) : OPS Tryz.prog N .plain ops K [{ dst := some d, op := .assign x1, type := ty, pos := pos, after := aft, guard := none }] e w := Y.b hx (Y.z h) hN
end
section
variable {N : Nat} {ops : Array Oper} {K : Env → World → Prop} {e : Env} {w w0 : World} {S : List Nat} {L : List Blk} {fuel f : Nat} {listed : Array Bool} {d : Nat} {x1 y1 : Operand} {ty u : TypeId} {pos : String} {aft : Array Edge}
theorem tf (i : Nat) (H : SH w0 S w L) {s k off b o : Nat} (hi : (ops[i]?, fuel, ev e x1, jnB s k) = (some { dst := some d, op := .fieldAddr s x1 k, type := ty, pos := pos, after := aft, guard := none }, f + 1, .pointer (some ⟨b, o, none⟩), some off))
    (h : OPH Tryz.prog N ops K w0 S L f (listed.setIfInBounds i true) (upd e d (.pointer (some ⟨b, o + off, none⟩))) w) (hN : Nat.blt d N = true := by rfl) (hs : Region.noSelect ops = true := by kernel_rfl) (hf : Region.free .any ops listed i = true := by kernel_rfl) (hr : (Region.ready .any ops listed).contains i = true := by kernel_rfl) : OPH Tryz.prog N ops K w0 S L fuel listed e w :=
  Y.t i H (pr hi).1 (pr (pr hi).2).1 (fun _ _ => Y.f (pr (pr (pr hi).2).2).2 (pr (pr (pr hi).2).2).1) h hN hs hf hr
theorem tl (i : Nat) (H : SH w0 S w L) (j : Nat) {g k : Nat} {T : TypeId} {cs : List Value} {v : Value} (hi : (ops[i]?, fuel, ev e x1, L[j]?, cs[k]?, jjj u) = (some { dst := some d, op := .load u x1, type := ty, pos := pos, after := aft, guard := none }, f + 1, .pointer (some ⟨g, k, none⟩), some ⟨g, T, cs⟩, some v, some false))
    (h : OPH Tryz.prog N ops K w0 S L f (listed.setIfInBounds i true) (upd e d v) w) (hN : Nat.blt d N = true := by rfl) (hs : Region.noSelect ops = true := by kernel_rfl) (hf : Region.free .any ops listed i = true := by kernel_rfl) (hr : (Region.ready .any ops listed).contains i = true := by kernel_rfl) : OPH Tryz.prog N ops K w0 S L fuel listed e w :=
  Y.t i H (pr hi).1 (pr (pr hi).2).1 (fun _ H => Y.l H j (pr (pr (pr hi).2).2).1 (pr (pr (pr (pr hi).2).2).2).1 (pr (pr (pr (pr (pr hi).2).2).2).2).1 (pr (pr (pr (pr (pr hi).2).2).2).2).2) h hN hs hf hr
end
section
variable {N : Nat} {Kn : Env → World → Prop} {Kx : Nat → Env → World → Prop} {Kr : Env → World → Prop} {e : Env} {w : World} {id : Nat}
theorem qq {l : List Oper} {y y' : Code} (h : OPS Tryz.prog N .plain l.toArray (fun e w => WP Tryz.prog N y (fun e w => WP Tryz.prog N y' Kn Kx Kr e w) Kx Kr e w) l e w) : WP Tryz.prog N (.seq (.seq (.region id l.toArray false) y) y') Kn Kx Kr e w := WP.seq (WP.seq (WP.region h))
end
end Go.Proofs.YtgcokllbophkkaaGreat.Y
namespace Go.Proofs.YtgcokllbophkkaaGreat
open Go Go.W Go.RowKit
structure Ent where
 node : Int
 secs : Int
 edges : Int
 n : Int
instance : Inhabited Ent := ⟨⟨0, 0, 0, 0⟩⟩
def ja9 (x : Ent) : List Value := [I x.node, I x.secs, I x.edges]
def j5 (x : Ent) : List Value := [I x.node, I x.secs, I x.edges, I x.n]
theorem j9 (x : Ent) : (j5 x).length = 4 := rfl
def q8 (A : Option Addr) (n cap : Nat) (p : Int) : List Value := [.func (.func 122) #[] #[], .slice A n cap, I p]
def jfY (s e s2 e2 : Int) : Bool := decide (s < s2) || (decide (s = s2) && decide (e < e2))
def jaB (x y : Ent) : Bool := jfY x.secs x.edges y.secs y.edges || (!jfY y.secs y.edges x.secs x.edges && decide (x.n < y.n))
theorem jkZ (s e s2 e2 : Int) (w0 : World) :
  Calls Tryz.prog 123 #[.agg #[I s, I e], .agg #[I s2, I e2]] w0 fun r w' => r = .returned (.bool (jfY s e s2 e2)) ∧ Below w0.heap.size w0 w' := by
 have H := SH.refl w0
 refine Calls.ofWP Tryz.func123 rfl Tryz.results123 Tryz.ntmps123 rfl<|Y.qr<|Y.bx (cA rfl) H ?_
 clear H; intro g2 w H
 refine Y.bx (cA rfl) H ?_
 clear H; intro g3 w H
 refine Y.aB rfl<|Y.z<|Y.qr<|Y.W H 1 rfl<|Y.W H 0 rfl<|Y.lt rfl<|Y.B rfl<|Y.gf rfl<|Y.yy H 1 rfl<|Y.gf rfl<|Y.yy H 0 rfl<|Y.g rfl rfl (fun hg => Ev.eql (gvE hg rfl) (gvE hg rfl))<|Y.g rfl rfl (fun hg => Ev.mvB (gvE hg rfl))<|OPS.gvalN rfl rfl (GB.g rfl) rfl rfl (fun hg => Ev.fieldAddr (jaf rfl) rfl)<|OPS.gvalN rfl rfl (GB.g rfl) rfl rfl (fun hg => Ev.load1 (j6 rfl) (gvE hg rfl) (H.ldL 1 rfl _ rfl))<|OPS.gvalN rfl rfl (GB.g rfl) rfl rfl (fun hg => Ev.fieldAddr (jaf rfl) rfl)<|OPS.gvalN rfl rfl (GB.g rfl) rfl rfl (fun hg => Ev.load1 (j6 rfl) (gvE hg rfl) (H.ldL 0 rfl _ rfl))<|OPS.gvalN rfl rfl (GB.g rfl) rfl rfl (fun hg => Ev.lss (gvE hg rfl) (gvE hg rfl))<|Y.g rfl rfl (fun hg => Ev.pickAnd2 (beqT hg) (gvE hg rfl) rfl rfl)<|Y.po rfl<|Y.aB rfl<|Y.z ?_
 refine WP.ret ⟨_, rfl, ?_⟩
 exact ⟨rfl, H.below⟩
theorem jk7 (a s e b s2 e2 : Int) (w0 : World) :
  Calls Tryz.prog 122 #[.agg #[I a, I s, I e], .agg #[I b, I s2, I e2]] w0 fun r w' => r = .returned (.bool (jfY s e s2 e2)) ∧ Below w0.heap.size w0 w' := by
 have H := SH.refl w0
 refine Calls.ofWP Tryz.func122 rfl Tryz.results122 Tryz.ntmps122 rfl<|Y.qr<|Y.bx (cA rfl) H ?_
 clear H; intro g2 w H
 refine Y.bx (cA rfl) H ?_
 clear H; intro g3 w H
 refine Y.aB rfl<|Y.z<|Y.qr<|Y.F rfl<|Y.v (Ev.loadN [_, _] (j6 rfl) (j4 rfl) rfl ⟨H.ldL 1 rfl _ rfl, H.ldL 1 rfl _ rfl, trivial⟩)<|Y.F rfl<|Y.v (Ev.loadN [_, _] (j6 rfl) (j4 rfl) rfl ⟨H.ldL 0 rfl _ rfl, H.ldL 0 rfl _ rfl, trivial⟩)<|Y.cl 9 rfl (jkZ _ _ _ _ _) H ?_
 clear H; intro w H
 refine Y.aB rfl<|Y.z ?_
 refine WP.ret ⟨_, rfl, ?_⟩
 exact ⟨rfl, H.below⟩
theorem qLen (gq n cap : Nat) (A : Option Addr) (p : Int) (w0 : World) (hq : jak w0 gq 0 (q8 A n cap p)) :
  Calls Tryz.prog 153 #[.pointer (some ⟨gq, 0, none⟩)] w0 fun e w' => e = .returned (I n) ∧ Below w0.heap.size w0 w' := by
 have H := SH.refl w0
 obtain ⟨q0, q1, q2, _⟩ := hq
 refine Calls.ofWP Tryz.func153 rfl Tryz.results153 Tryz.ntmps153 rfl<|Y.qr<|Y.bz rfl<|Y.qq<|Y.D rfl<|Y.v (Ev.eqlPn Tryz.runUnderlying186 rfl rfl)<|Y.z<|WP.cond_f rfl ?_
 refine Y.k<|Y.qr<|Y.D rfl<|Y.C rfl<|Y.F rfl<|Y.v (Y.c (H.ld0 (by assumption)) rfl) ?_
 refine Y.E rfl<|Y.bz rfl ?_
 refine WP.ret ⟨_, rfl, ?_⟩
 exact ⟨rfl, H.below⟩
theorem jhr (gq cap i k : Nat) (A : Option Addr) (p : Int) (h : List Ent) (w0 : World) (hq : jak w0 gq 0 (q8 A h.length cap p)) (hr : k8 4 j5 w0 A h) (hi : i < h.length) (hk : k < h.length) :
  Calls Tryz.prog 139 #[.pointer (some ⟨gq, 0, none⟩), I i, I k] w0 fun e w' => e = .returned (.bool (jaB h[i] h[k])) ∧ Below w0.heap.size w0 w' := by
 have H := SH.refl w0
 obtain ⟨q0, q1, q2, _⟩ := hq
 obtain ⟨b, o, rfl, hx⟩ := hr i hi
 obtain ⟨_, _, e1, hy⟩ := hr k hk
 cases e1
 refine Calls.ofWP Tryz.func139 rfl Tryz.results139 Tryz.ntmps139 rfl<|Y.qr<|Y.aB rfl<|Y.z<|Y.q ?_
 refine WP.rheldC [7, 8, 9, 10, 11, 12, 13, 14, 15, 16, 17, 18, 19, 20, 21, 22] (fun u w' => ∃ g7 g8, u 7 = .pointer (some ⟨g7, 0, none⟩) ∧ u 8 = .pointer (some ⟨g8, 0, none⟩) ∧ SH w0 [] w' [⟨g8, 213, j5 h[k]⟩, ⟨g7, 213, j5 h[i]⟩]) mixed H ?_ ?_
 ·clear H; intro w hbw1 H
  refine Y.t 0 H rfl rfl (fun w H => Ev.mvP rfl)<|Y.t 1 H rfl rfl (fun w H => Ev.nilCheckP rfl)<|Y.tf 2 H rfl<|Y.t 3 H rfl rfl (fun w H => Y.c (H.ld0 (by assumption)) rfl) ?_
  refine Y.t 4 H rfl rfl (fun w H => Y.m rfl)<|Y.t 5 H rfl rfl (fun w H => Y.X rfl rfl rfl rfl rfl) ?_
  refine OPH.take 6 rfl rfl rfl rfl (by kernel_rfl) (by kernel_rfl) (by kernel_rfl) rfl (by exact H) (fun w H => (by (change Ev _ _ _ _ (Op.load 213 (Operand.tmp 14)) _; refine Ev.loadN (b := b) (o := o + i * 4) (j5 h[i]) ?_ ?_ ?_ (k7 H hx); exact j6 rfl; exact j4 rfl; rfl))) ?_
  refine Y.t 7 H rfl rfl (fun w H => Ev.mvP rfl)<|Y.t 8 H rfl rfl (fun w H => Ev.nilCheckP rfl)<|Y.tf 9 H rfl<|Y.t 10 H rfl rfl (fun w H => Y.c (H.ld0 (by assumption)) rfl) ?_
  refine Y.t 11 H rfl rfl (fun w H => Y.m rfl)<|Y.t 12 H rfl rfl (fun w H => Y.X rfl rfl rfl rfl rfl) ?_
  refine OPH.take 13 rfl rfl rfl rfl (by kernel_rfl) (by kernel_rfl) (by kernel_rfl) rfl (by exact H) (fun w H => (by (change Ev _ _ _ _ (Op.load 213 (Operand.tmp 21)) _; refine Ev.loadN (b := b) (o := o + k * 4) (j5 h[k]) ?_ ?_ ?_ (k7 H hy); exact j6 rfl; exact j4 rfl; rfl))) ?_
  refine Y.A2 14 15 rfl rfl rfl ?_ ?_
  ·refine Y.al H rfl rfl ?_
   clear H; intro g7 w H
   refine Y.z <| ⟨(H.drop Y.sc), ?_⟩
   refine Y.A1 15 rfl rfl<|Y.al H rfl rfl ?_
   clear H; intro g8 w H
   refine Y.z <| ⟨(H.drop (Y.sc.trans Y.sc)), ?_⟩
   refine Y.A1 16 rfl rfl<|Y.ss 1 H rfl (cA rfl) rfl ?_
   clear H; intro w H
   refine Y.z <| ⟨(H.drop (Y.sc.trans Y.sc)), ?_⟩
   refine Y.A1 17 rfl rfl<|Y.ss 0 H rfl (cA rfl) rfl ?_
   clear H; intro w H
   refine Y.z <| ⟨(H.drop (Y.sc.trans Y.sc)), ?_⟩
   refine Y.dn ?_
   exact ⟨Y.ag, g7, g8, rfl, rfl, H⟩
  ·refine Y.al H rfl rfl ?_
   clear H; intro g8 w H
   refine Y.z <| ⟨(H.drop Y.sc), ?_⟩
   refine Y.A1 14 rfl rfl<|Y.al H rfl rfl ?_
   clear H; intro g7 w H
   refine Y.z <| ⟨(H.drop (Y.sc.trans Y.sc)), ?_⟩
   refine Y.A1 16 rfl rfl<|Y.ss 0 H rfl (cA rfl) rfl ?_
   clear H; intro w H
   refine Y.z <| ⟨(H.drop (Y.sc.trans Y.sc)), ?_⟩
   refine Y.A1 17 rfl rfl<|Y.ss 1 H rfl (cA rfl) rfl ?_
   clear H; intro w H
   refine Y.z <| ⟨(H.drop (Y.sc.trans Y.sc)), ?_⟩
   refine Y.dn ?_
   exact ⟨Y.ag, g7, g8, rfl, rfl, H.reidx [1, 0] (by decide) rfl⟩
 clear H
 rintro u w ⟨g7, g8, h7, h8, H⟩
 refine WP.know (t := 7) h7 (WP.know (t := 8) h8 ?_)
 refine Y.q<|WP.block<|Y.q<|WP.rquiet mixed (by kernel_rfl) H ?_
 clear H; intro w hbw2 H
 refine Y.D rfl<|Y.C rfl<|Y.F rfl<|Y.v (Y.c (H.ld0 (by assumption)) rfl) ?_
 refine Y.F rfl<|Y.v (by (change Ev _ _ _ _ (Op.load 189 (Operand.tmp 28)) _; exact Ev.loadN (ja9 h[i]) (j6 rfl) (j4 rfl) rfl (jas H 1 rfl _ 0 (fun j hj => by match j with | 0 => rfl | 1 => rfl | 2 => rfl))))<|Y.F rfl<|Y.v (by (change Ev _ _ _ _ (Op.load 189 (Operand.tmp 30)) _; exact Ev.loadN (ja9 h[k]) (j6 rfl) (j4 rfl) rfl (jas H 0 rfl _ 0 (fun j hj => by match j with | 0 => rfl | 1 => rfl | 2 => rfl))))<|OPS.callq rfl rfl rfl (EvC.clos rfl (z7 rfl)) (fun w2 hb2 => jk7 _ _ _ _ _ _ _) ?_
 refine Y.aB rfl<|OPS.nilq H ?_
 clear H; intro w hbx2 H
 refine WP.cond rfl (fun hc2 => ?_) (fun hc2 => ?_)
 ·refine Y.qr<|Y.aB rfl<|Y.z ?_
  refine WP.ret ⟨_, rfl, ?_⟩
  exact ⟨congrArg (fun b => Ending.returned (Bo b)) (show true = jaB h[i] h[k] from by simp only [jaB, hc2]; rfl), H.below⟩
 refine Y.q<|WP.rquiet mixed (by kernel_rfl) H ?_
 clear H; intro w hbw4 H
 refine Y.D rfl<|Y.C rfl<|Y.F rfl<|Y.v (Y.c (H.ld0 (by assumption)) rfl) ?_
 refine Y.F rfl<|Y.v (by (change Ev _ _ _ _ (Op.load 189 (Operand.tmp 38)) _; exact Ev.loadN (ja9 h[k]) (j6 rfl) (j4 rfl) rfl (jas H 0 rfl _ 0 (fun j hj => by match j with | 0 => rfl | 1 => rfl | 2 => rfl))))<|Y.F rfl<|Y.v (by (change Ev _ _ _ _ (Op.load 189 (Operand.tmp 40)) _; exact Ev.loadN (ja9 h[i]) (j6 rfl) (j4 rfl) rfl (jas H 1 rfl _ 0 (fun j hj => by match j with | 0 => rfl | 1 => rfl | 2 => rfl))))<|OPS.callq rfl rfl rfl (EvC.clos rfl (z7 rfl)) (fun w2 hb2 => jk7 _ _ _ _ _ _ _) ?_
 refine Y.aB rfl<|OPS.nilq H ?_
 clear H; intro w hbx4 H
 refine WP.cond rfl (fun hc4 => ?_) (fun hc4 => ?_)
 ·refine Y.qr<|Y.aB rfl<|Y.z ?_
  refine WP.ret ⟨_, rfl, ?_⟩
  exact ⟨congrArg (fun b => Ending.returned (Bo b)) (show false = jaB h[i] h[k] from by simp only [jaB, hc2, hc4]; rfl), H.below⟩
 refine Y.k<|Y.qr<|Y.W H 1 rfl<|Y.W H 0 rfl<|Y.lt rfl<|Y.aB rfl<|Y.z ?_
 refine WP.ret ⟨_, rfl, ?_⟩
 exact ⟨congrArg (fun b => Ending.returned (Bo b)) (show decide (h[i].n < h[k].n) = jaB h[i] h[k] from by simp only [jaB, hc2, hc4]; simp), H.below⟩
end Go.Proofs.YtgcokllbophkkaaGreat
namespace Go.W
section
variable {α : Type} [Inhabited α]
def ja5 (h : List α) (i k : Nat) : List α := (h.set i (h.getD k default)).set k (h.getD i default)
theorem y6 (h : List α) (i k : Nat) : (ja5 h i k).length = h.length := by simp [ja5]
theorem jcD {h : List α} {i k : Nat} (hi : i < h.length) (hk : k < h.length) : (ja5 h i k).Perm h := by
 have : ja5 h i k = (h.set i h[k]).set k h[i] := by simp [ja5, hi, hk]
 rw [this]
 exact List.set_set_perm hi hk
theorem jbZ {h : List α} {i k j : Nat} (hi : i < h.length) (hk : k < h.length) : (ja5 h i k).getD j default = if j = k then h.getD i default else if j = i then h.getD k default else h.getD j default := by
 simp only [ja5, List.getD_eq_getElem?_getD, List.getElem?_set, List.length_set]
 by_cases h1 : j = k
 ·subst h1; simp [hk]
 ·by_cases h2 : j = i
  ·subst h2; simp [Ne.symm h1, h1, hi]
  ·simp [Ne.symm h1, Ne.symm h2, h1, h2]
structure jmO (lt : α → α → Bool) : Prop where
 asy : ∀ x y, lt x y = true → lt y x = false
 tra : ∀ x y z, lt y x = false → lt z y = false → lt z x = false
variable {lt : α → α → Bool}
abbrev leA (lt : α → α → Bool) (h : List α) (i k : Nat) : Prop := lt (h.getD k default) (h.getD i default) = false
theorem jmO.refl (o : jmO lt) (x : α) : lt x x = false := by
 cases h : lt x x with
 | false => rfl
 | true => have := o.asy x x h; rw [h] at this; cases this
def jaM (lt : α → α → Bool) (h : List α) : Prop := ∀ k, 0 < k → k < h.length → leA lt h ((k - 1) / 2) k
structure jjA (lt : α → α → Bool) (h : List α) (i : Nat) : Prop where
 lt' : i < h.length
 ord : ∀ k, 0 < k → k < h.length → k ≠ i → leA lt h ((k - 1) / 2) k
 skip : ∀ k, 0 < k → k < h.length → (k - 1) / 2 = i → 0 < i → leA lt h ((i - 1) / 2) k
structure jcx (lt : α → α → Bool) (h : List α) (i : Nat) : Prop where
 ord : ∀ k, 0 < k → k < h.length → (k - 1) / 2 ≠ i → leA lt h ((k - 1) / 2) k
 skip : ∀ k, 0 < k → k < h.length → (k - 1) / 2 = i → 0 < i → leA lt h ((i - 1) / 2) k
theorem jaM.nil : jaM lt [] := fun k _ h => by simp at h
theorem jcP {l m : List α} {k : Nat} (h : k < l.length) : (l ++ m).getD k default = l.getD k default := by
 simp [List.getElem?_append_left h]
theorem jjA.start {h : List α} (hh : jaM lt h) (x : α) : jjA lt (h ++ [x]) h.length := by
 refine ⟨by simp, fun k h0 h1 h2 => ?_, fun k h0 h1 h2 h3 => ?_⟩
 ·simp only [List.length_append, List.length_cons, List.length_nil] at h1
  have hk : k < h.length := by omega
  unfold leA
  rw [jcP hk, jcP (by omega)]
  exact hh k h0 hk
 ·simp only [List.length_append, List.length_cons, List.length_nil] at h1; omega
theorem jjA.done {h : List α} {i : Nat} (hu : jjA lt h i) (hd : i = 0 ∨ leA lt h ((i - 1) / 2) i) : jaM lt h := fun k h0 h1 => by
 by_cases hk : k = i
 ·subst hk; rcases hd with rfl | hd
  ·omega
  ·exact hd
 ·exact hu.ord k h0 h1 hk
theorem jjA.step (o : jmO lt) {h : List α} {i : Nat} (hu : jjA lt h i) (h0 : 0 < i) (hb : lt (h.getD i default) (h.getD ((i - 1) / 2) default) = true) : jjA lt (ja5 h i ((i - 1) / 2)) ((i - 1) / 2) := by
 have hi := hu.lt'
 generalize hp : (i - 1) / 2 = p at *
 have hpl : p < h.length := by omega
 have hpi : p < i := by omega
 refine ⟨by rw [y6]; exact hpl, fun k k0 k1 k2 => ?_, fun k k0 k1 k2 p0 => ?_⟩
 ·rw [y6] at k1
  unfold leA
  rw [jbZ hi hpl, jbZ hi hpl, if_neg k2]
  by_cases hki : k = i
  ·subst hki
   rw [if_pos rfl, if_pos hp]
   exact o.asy _ _ hb
  ·rw [if_neg hki]
   by_cases q1 : (k - 1) / 2 = p
   ·rw [if_pos q1]
    have := hu.ord k k0 k1 hki
    unfold leA at this
    rw [q1] at this
    exact o.tra _ _ _ (o.asy _ _ hb) this
   ·rw [if_neg q1]
    by_cases q2 : (k - 1) / 2 = i
    ·rw [if_pos q2]
     have := hu.skip k k0 k1 q2 h0
     unfold leA at this
     rw [hp] at this
     exact this
    ·rw [if_neg q2]
     exact hu.ord k k0 k1 hki
 ·rw [y6] at k1
  unfold leA
  have hpp : (p - 1) / 2 ≠ p := by omega
  have hppi : (p - 1) / 2 ≠ i := by omega
  rw [jbZ hi hpl, jbZ hi hpl, if_neg hpp, if_neg hppi, if_neg (show k ≠ p by omega)]
  have g1 := hu.ord p p0 hpl (by omega)
  by_cases hki : k = i
  ·rw [if_pos hki]; exact g1
  ·rw [if_neg hki]
   have g2 := hu.ord k k0 k1 hki
   unfold leA at g2
   rw [k2] at g2
   exact o.tra _ _ _ g1 g2
theorem jcx.done {h : List α} {i : Nat} (hd : jcx lt h i) (hc : ∀ k, 0 < k → k < h.length → (k - 1) / 2 = i → leA lt h i k) : jaM lt h := fun k h0 h1 => by
 by_cases hk : (k - 1) / 2 = i
 ·rw [hk]; exact hc k h0 h1 hk
 ·exact hd.ord k h0 h1 hk
theorem jcx.step {h : List α} {i f : Nat} (hd : jcx lt h i) (hi : i < h.length) (hf : f < h.length) (hf0 : 0 < f) (hp : (f - 1) / 2 = i) (hl : leA lt h f i)
  (hc : ∀ k, 0 < k → k < h.length → (k - 1) / 2 = i → leA lt h f k) : jcx lt (ja5 h i f) f := by
 have hfi : i < f := by omega
 refine ⟨fun k k0 k1 k2 => ?_, fun k k0 k1 k2 _ => ?_⟩
 ·rw [y6] at k1
  unfold leA
  rw [jbZ hi hf, jbZ hi hf, if_neg k2]
  by_cases q : (k - 1) / 2 = i
  ·rw [if_pos q]
   by_cases hkf : k = f
   ·rw [if_pos hkf]; exact hl
   ·rw [if_neg hkf, if_neg (show k ≠ i by omega)]
    exact hc k k0 k1 q
  ·rw [if_neg q, if_neg (show k ≠ f by intro he; subst he; exact q hp)]
   by_cases hki : k = i
   ·subst hki
    rw [if_pos rfl]
    exact hd.skip f hf0 hf hp k0
   ·rw [if_neg hki]; exact hd.ord k k0 k1 q
 ·rw [y6] at k1
  unfold leA
  rw [jbZ hi hf, jbZ hi hf, hp, if_neg (show i ≠ f by omega), if_pos rfl, if_neg (show k ≠ f by omega), if_neg (show k ≠ i by omega)]
  have := hd.ord k k0 k1 (by omega)
  unfold leA at this
  rw [k2] at this; exact this
theorem jaM.root (o : jmO lt) {h : List α} (hh : jaM lt h) : ∀ k, k < h.length → leA lt h 0 k := by
 intro k
 induction k using Nat.strongRecOn with
 | _ k ih =>
  intro hk
  by_cases h0 : k = 0
  ·subst h0; exact o.refl _
  ·exact o.tra _ _ _ (ih ((k - 1) / 2) (by omega) (by omega)) (hh k (by omega) hk)
theorem jaM.root_le (o : jmO lt) {x : α} {t : List α} (hh : jaM lt (x :: t)) : ∀ y ∈ x :: t, lt y x = false := by
 intro y hy
 obtain ⟨k, hk, rfl⟩ := List.mem_iff_getElem.1 hy
 have h2 : lt ((x :: t).getD k default) ((x :: t).getD 0 default) = false := hh.root o k hk
 have e1 : (x :: t).getD k default = (x :: t)[k] := by rw [List.getD_eq_getElem?_getD, List.getElem?_eq_getElem hk]; rfl
 rw [e1] at h2
 exact h2
def jfH (h : List α) : List α := (ja5 h 0 (h.length - 1)).take (h.length - 1)
theorem jba (h : List α) : (jfH h).length = h.length - 1 := by simp [jfH, y6]
theorem jkV {h : List α} {j : Nat} (hj : j < h.length - 1) : (jfH h).getD j default = if j = 0 then h.getD (h.length - 1) default else h.getD j default := by
 have e : (jfH h).getD j default = (ja5 h 0 (h.length - 1)).getD j default := by
  simp [jfH, List.getElem?_take, hj]
 rw [e, jbZ (by omega) (by omega), if_neg (by omega)]
theorem jgY {x : α} {t : List α} : (x :: jfH (x :: t)).Perm (x :: t) := by
 have h1 := jcD (h := x :: t) (i := 0) (k := t.length) (by simp) (by simp)
 refine List.Perm.trans ?_ h1
 have hlen : (ja5 (x :: t) 0 t.length).length = t.length + 1 := by rw [y6]; rfl
 have hlast : (ja5 (x :: t) 0 t.length)[t.length]'(by omega) = x := by
  have := jbZ (h := x :: t) (i := 0) (k := t.length) (j := t.length) (by simp) (by simp)
  simpa [hlen] using this
 have e : ja5 (x :: t) 0 t.length = jfH (x :: t) ++ [x] := by
  have h2 : ja5 (x :: t) 0 t.length = (ja5 (x :: t) 0 t.length).take t.length ++ (ja5 (x :: t) 0 t.length).drop t.length := (List.take_append_drop _ _).symm
  rw [List.drop_eq_getElem_cons (by omega), hlast, List.drop_eq_nil_of_le (by omega)] at h2
  exact h2
 rw [e]
 exact (List.perm_append_comm (l₁ := [x])).trans (List.Perm.refl _) 
theorem jcx.start {h : List α} (hh : jaM lt h) : jcx lt (jfH h) 0 := by
 refine ⟨fun k k0 k1 k2 => ?_, fun k _ _ _ h0 => by omega⟩
 rw [jba] at k1
 unfold leA
 rw [jkV k1, jkV (by omega), if_neg k2, if_neg (by omega)]
 exact hh k k0 (by omega)
structure jbD (lt : α → α → Bool) (h : List α) (i k f : Nat) : Prop where
 place : f = i ∨ (0 < f ∧ (f - 1) / 2 = i ∧ f < h.length)
 le : leA lt h f i
 all : ∀ j, 0 < j → j < h.length → (j - 1) / 2 = i → j < k → leA lt h f j
theorem jbD.start (o : jmO lt) (h : List α) (i : Nat) : jbD lt h i (2 * i + 1) i := ⟨.inl rfl, o.refl _, fun j h0 _ h1 h2 => by omega⟩
theorem jbD.take (o : jmO lt) {h : List α} {i k f : Nat} (hf : jbD lt h i k f) (h0 : 0 < k) (hk : k < h.length) (hp : (k - 1) / 2 = i) (hb : lt (h.getD k default) (h.getD f default) = true) : jbD lt h i (k + 1) k := by
 have hkf : leA lt h k f := o.asy _ _ hb
 refine ⟨.inr ⟨h0, hp, hk⟩, o.tra _ _ _ hkf hf.le, fun j j0 j1 j2 j3 => ?_⟩
 by_cases hj : j = k
 ·subst hj; exact o.refl _
 ·exact o.tra _ _ _ hkf (hf.all j j0 j1 j2 (by omega))
theorem jbD.keep {h : List α} {i k f : Nat} (hf : jbD lt h i k f) (hb : lt (h.getD k default) (h.getD f default) = false) : jbD lt h i (k + 1) f := by
 refine ⟨hf.place, hf.le, fun j j0 j1 j2 j3 => ?_⟩
 by_cases hj : j = k
 ·subst hj; exact hb
 ·exact hf.all j j0 j1 j2 (by omega)
theorem jbD.done {h : List α} {i k f : Nat} (hf : jbD lt h i k f) (hk : 2 * i + 2 < k ∨ h.length ≤ k) : ∀ j, 0 < j → j < h.length → (j - 1) / 2 = i → leA lt h f j := fun j j0 j1 j2 => hf.all j j0 j1 j2 (by omega)
end
end Go.W
namespace Go.Proofs.YtgcokllbophkkaaGreat
open Go Go.W Go.RowKit
theorem jcg : ∀ (vs a b : List Value) (k : Nat), k + vs.length ≤ a.length → jam (a ++ b) k vs = jam a k vs ++ b
 | [], _, _, _, _ => rfl
 | v :: vs, a, b, k, h => by
  simp only [List.length_cons] at h
  simp only [jam]
  rw [List.set_append_left _ _ (by omega)]
  exact jcg vs (a.set k v) b (k + 1) (by simp; omega)
theorem jbj (h : List Ent) (sp : List Value) (k : Nat) (x : Ent) (hk : k < h.length) : jam (h.flatMap j5 ++ sp) (0 + k * 4) (j5 x) = (h.set k x).flatMap j5 ++ sp := by
 rw [Nat.zero_add, jcg _ _ _ _ (by rw [x8 j9, j9]; omega), jb0 j9 h k x hk]
def jaF (gq ga : Nat) (h : List Ent) (cap : Nat) (p : Int) (sp : List Value) : List Blk := [⟨gq, 211, q8 (some ⟨ga, 0, none⟩) h.length cap p⟩, ⟨ga, 213, h.flatMap j5 ++ sp⟩]
theorem qSwap (gq ga cap i k : Nat) (p : Int) (h : List Ent) (sp : List Value) (w0 : World) (hi : i < h.length) (hk : k < h.length) (H0 : SH w0 [gq, ga] w0 (jaF gq ga h cap p sp)) :
  Calls Tryz.prog 140 #[.pointer (some ⟨gq, 0, none⟩), I i, I k] w0 fun e w' => e = .returned (.tuple #[]) ∧ SH w0 [gq, ga] w' (jaF gq ga (ja5 h i k) cap p sp) := by
 have Hf := H0
 unfold jaF q8 at Hf
 have H := Hf.reidx (L' := [⟨gq, 211, q8 (some ⟨ga, 0, none⟩) h.length cap p⟩]) [0] (by decide) rfl
 unfold q8 at H
 refine Calls.ofWP Tryz.func140 rfl Tryz.results140 Tryz.ntmps140 rfl ?_
 refine WP.rheldC [6, 7, 8, 9, 10, 11, 12, 13, 14, 15, 16, 17, 18, 19, 20, 21, 22, 23, 24, 25, 26, 27, 28, 29, 30, 31] (fun _ w' => SH w0 [gq, ga] w' (jaF gq ga (ja5 h i k) cap p sp)) mixed H ?_ ?_
 ·clear H; intro w hbw0 H
  refine Y.t 0 H rfl rfl (fun w H => Ev.mvP rfl)<|Y.t 1 H rfl rfl (fun w H => Ev.nilCheckP rfl)<|Y.tf 2 H rfl<|Y.tl 3 H 0 rfl<|Y.t 4 H rfl rfl (fun w H => Y.m rfl)<|Y.t 5 H rfl rfl (fun w H => Ev.mvP rfl)<|Y.t 6 H rfl rfl (fun w H => Ev.nilCheckP rfl)<|Y.tf 7 H rfl<|Y.tl 8 H 0 rfl<|Y.t 9 H rfl rfl (fun w H => Y.m rfl)<|Y.t 10 H rfl rfl (fun w H => Ev.mvP rfl)<|Y.t 11 H rfl rfl (fun w H => Ev.nilCheckP rfl)<|Y.tf 12 H rfl<|Y.tl 13 H 0 rfl<|Y.t 14 H rfl rfl (fun w H => Y.m rfl)<|Y.t 15 H rfl rfl (fun w H => Y.X rfl rfl rfl rfl rfl)<|Y.t 17 H rfl rfl (fun w H => Ev.mvP rfl)<|Y.t 18 H rfl rfl (fun w H => Ev.nilCheckP rfl)<|Y.tf 19 H rfl<|Y.tl 20 H 0 rfl<|Y.t 21 H rfl rfl (fun w H => Y.m rfl)<|Y.t 22 H rfl rfl (fun w H => Y.X rfl rfl rfl rfl rfl) ?_
  refine Y.A2 16 23 rfl rfl rfl ?_ ?_
  ·try replace Hf := Hf.toBelow hbw0
   have hx := jbL j9 Hf 1 rfl k hk
   obtain ⟨_, _, e1, hx⟩ := hx
   cases e1
   refine OPS.val rfl rfl rfl (by refine Ev.loadN (b := ga) (o := 0 + k * 4) (j5 h[k]) ?_ ?_ ?_ hx; exact j6 rfl; exact j4 rfl; rfl) ?_
   refine Y.z <| ⟨(H), ?_⟩
   refine Y.A1 23 rfl rfl ?_
   try replace Hf := Hf.toBelow hbw0
   have hx := jbL j9 Hf 1 rfl i hi
   obtain ⟨_, _, e1, hx⟩ := hx
   cases e1
   refine OPS.val rfl rfl rfl (by refine Ev.loadN (b := ga) (o := 0 + i * 4) (j5 h[i]) ?_ ?_ ?_ hx; exact j6 rfl; exact j4 rfl; rfl) ?_
   refine Y.z <| ⟨(H), ?_⟩
   refine Y.t 24 H rfl rfl (fun w H => Y.X rfl rfl rfl rfl rfl)<|Y.A1 25 rfl rfl<|OPS.store 1 _ rfl rfl rfl (j4 rfl) rfl (cA rfl) rfl rfl Hf rfl (by rw [List.length_append, x8 j9]; omega) ?_
   clear H Hf; intro w Hf
   replace Hf : SH w0 [gq, ga] w [⟨gq, 211, q8 (some ⟨ga, 0, none⟩) h.length cap p⟩, ⟨ga, 213, jam (h.flatMap j5 ++ sp) (0 + i * 4) (j5 h[k])⟩] := Hf
   rw [jbj h sp i _ hi] at Hf
   have H := Hf.reidx (L' := [⟨gq, 211, q8 (some ⟨ga, 0, none⟩) h.length cap p⟩]) [0] (by decide) rfl
   unfold q8 at H
   refine Y.z <| ⟨(H), ?_⟩
   refine Y.t 26 H rfl rfl (fun w H => Y.X rfl rfl rfl rfl rfl)<|Y.A1 27 rfl rfl<|OPS.store 1 _ rfl rfl rfl (j4 rfl) rfl (cA rfl) rfl rfl Hf rfl (by rw [List.length_append, x8 j9, List.length_set]; omega) ?_
   clear H Hf; intro w Hf
   replace Hf : SH w0 [gq, ga] w [⟨gq, 211, q8 (some ⟨ga, 0, none⟩) h.length cap p⟩, ⟨ga, 213, jam ((h.set i h[k]).flatMap j5 ++ sp) (0 + k * 4) (j5 h[i])⟩] := Hf
   rw [jbj _ sp k _ (by rw [List.length_set]; exact hk)] at Hf
   have H := Hf.reidx (L' := [⟨gq, 211, q8 (some ⟨ga, 0, none⟩) h.length cap p⟩]) [0] (by decide) rfl
   unfold q8 at H
   have hsw : ja5 h i k = (h.set i h[k]).set k h[i] := by simp [ja5, hi, hk]
   refine Y.z <| ⟨(H), ?_⟩
   refine Y.dn ?_
   exact ⟨Y.ag, by rw [jaF, y6, hsw]; exact Hf⟩
  ·try replace Hf := Hf.toBelow hbw0
   have hx := jbL j9 Hf 1 rfl i hi
   obtain ⟨_, _, e1, hx⟩ := hx
   cases e1
   refine OPS.val rfl rfl rfl (by refine Ev.loadN (b := ga) (o := 0 + i * 4) (j5 h[i]) ?_ ?_ ?_ hx; exact j6 rfl; exact j4 rfl; rfl) ?_
   refine Y.z <| ⟨(H), ?_⟩
   refine Y.A1 16 rfl rfl ?_
   try replace Hf := Hf.toBelow hbw0
   have hx := jbL j9 Hf 1 rfl k hk
   obtain ⟨_, _, e1, hx⟩ := hx
   cases e1
   refine OPS.val rfl rfl rfl (by refine Ev.loadN (b := ga) (o := 0 + k * 4) (j5 h[k]) ?_ ?_ ?_ hx; exact j6 rfl; exact j4 rfl; rfl) ?_
   refine Y.z <| ⟨(H), ?_⟩
   refine Y.t 24 H rfl rfl (fun w H => Y.X rfl rfl rfl rfl rfl)<|Y.A1 25 rfl rfl<|OPS.store 1 _ rfl rfl rfl (j4 rfl) rfl (cA rfl) rfl rfl Hf rfl (by rw [List.length_append, x8 j9]; omega) ?_
   clear H Hf; intro w Hf
   replace Hf : SH w0 [gq, ga] w [⟨gq, 211, q8 (some ⟨ga, 0, none⟩) h.length cap p⟩, ⟨ga, 213, jam (h.flatMap j5 ++ sp) (0 + i * 4) (j5 h[k])⟩] := Hf
   rw [jbj h sp i _ hi] at Hf
   have H := Hf.reidx (L' := [⟨gq, 211, q8 (some ⟨ga, 0, none⟩) h.length cap p⟩]) [0] (by decide) rfl
   unfold q8 at H
   refine Y.z <| ⟨(H), ?_⟩
   refine Y.t 26 H rfl rfl (fun w H => Y.X rfl rfl rfl rfl rfl)<|Y.A1 27 rfl rfl<|OPS.store 1 _ rfl rfl rfl (j4 rfl) rfl (cA rfl) rfl rfl Hf rfl (by rw [List.length_append, x8 j9, List.length_set]; omega) ?_
   clear H Hf; intro w Hf
   replace Hf : SH w0 [gq, ga] w [⟨gq, 211, q8 (some ⟨ga, 0, none⟩) h.length cap p⟩, ⟨ga, 213, jam ((h.set i h[k]).flatMap j5 ++ sp) (0 + k * 4) (j5 h[i])⟩] := Hf
   rw [jbj _ sp k _ (by rw [List.length_set]; exact hk)] at Hf
   have H := Hf.reidx (L' := [⟨gq, 211, q8 (some ⟨ga, 0, none⟩) h.length cap p⟩]) [0] (by decide) rfl
   unfold q8 at H
   have hsw : ja5 h i k = (h.set i h[k]).set k h[i] := by simp [ja5, hi, hk]
   refine Y.z <| ⟨(H), ?_⟩
   refine Y.dn ?_
   exact ⟨Y.ag, by rw [jaF, y6, hsw]; exact Hf⟩
 clear H
 rintro u w H
 refine ⟨_, rfl, ?_⟩
 exact ⟨rfl, H⟩
end Go.Proofs.YtgcokllbophkkaaGreat
namespace Go.Proofs.YtgcokllbophkkaaGreat
open Go Go.W Go.RowKit
def labV (x : Ent) : Value := .agg (ja9 x).toArray
def peekV (h : List Ent) : Value := .tuple #[labV (h.headD ⟨0, 0, 0, 0⟩), .bool (!h.isEmpty)]
theorem qPeek (gq cap : Nat) (A : Option Addr) (p : Int) (h : List Ent) (w0 : World) (hq : jak w0 gq 0 (q8 A h.length cap p)) (hr : k8 4 j5 w0 A h) :
  Calls Tryz.prog 141 #[.pointer (some ⟨gq, 0, none⟩)] w0 fun e w' => e = .returned (peekV h) ∧ Below w0.heap.size w0 w' := by
 have H := SH.refl w0
 have hq' := hq
 obtain ⟨q0, q1, q2, _⟩ := hq
 refine Calls.ofWPc Tryz.func141 rfl Tryz.results141 Tryz.ntmps141 rfl<|Y.qr<|Y.al H rfl rfl ?_
 clear H; intro g2 w H
 refine Y.aB rfl<|Y.z<|Y.qq<|Y.D rfl<|Y.cl 6 rfl (qLen gq h.length cap A p _ (k7 H hq')) H ?_
 clear H; intro w H
 refine Y.v (Ev.eql rfl rfl)<|Y.z ?_
 refine WP.cond rfl (fun hc1 => ?_) (fun hc1 => ?_)
 ·have h0 : h = [] := List.length_eq_zero_iff.1 (by simp at hc1; simp [hc1])
  subst h0
  refine Y.qr<|Y.al H rfl rfl ?_
  clear H; intro g4 w H
  refine Y.z<|Y.qr<|Y.O H 0 rfl<|Y.ss 1 H rfl (cA rfl) rfl ?_
  clear H; intro w H
  refine Y.aB rfl<|Y.z ?_
  refine WP.ret ⟨[_, _], ⟨(by exact x6 1 H rfl (j6 rfl) (j4 rfl) (by rfl) rfl), rfl, trivial⟩, ?_⟩
  exact ⟨rfl, H.below⟩
 have hpos : 0 < h.length := by simp at hc1; exact List.length_pos_iff.2 hc1
 obtain ⟨b, o, rfl, hx⟩ := hr 0 hpos
 obtain ⟨x, l, rfl⟩ : ∃ x l, h = x :: l := by
  cases h with
  | nil => exact absurd hpos (by simp)
  | cons x l => exact ⟨x, l, rfl⟩
 obtain ⟨x0, x1, x2, x3, _⟩ := k7 H hx
 refine Y.k<|Y.qr<|Y.D rfl<|Y.C rfl<|Y.F rfl<|Y.v (Y.c (H.ld0 (by assumption)) rfl) ?_
 refine Y.v (Ev.indexAddr (j := 0) (x7 rfl) (j4 rfl) rfl rfl rfl hpos)<|Y.F rfl ?_
 refine OPS.val rfl rfl rfl (by refine Ev.loadN (b := b) (o := o + 0 * 4 + 0) (ja9 x) ?_ ?_ ?_ ⟨x0, x1, x2, trivial⟩; exact j6 rfl; exact j4 rfl; rfl) ?_
 refine Y.ss 0 H rfl (cA rfl) rfl ?_
 clear H; intro w H
 refine Y.aB rfl<|Y.z ?_
 refine WP.ret ⟨[_, _], ⟨(by exact x6 0 H rfl (j6 rfl) (j4 rfl) (by rfl) rfl), rfl, trivial⟩, ?_⟩
 exact ⟨rfl, H.below⟩
theorem qNew (w0 : World) :
  Calls Tryz.prog 121 #[.func (.func 122) #[] #[]] w0 fun e w' => ∃ g, e = .returned (.pointer (some ⟨g, 0, none⟩)) ∧ SH w0 [] w' [⟨g, 211, q8 none 0 0 0⟩] := by
 have H := SH.refl w0
 refine Calls.ofWP Tryz.func121 rfl Tryz.results121 Tryz.ntmps121 rfl<|Y.qr<|Y.v (Ev.asP rfl)<|Y.z<|Y.qq<|Y.v (Ev.mvF rfl)<|Y.v (Ev.eqlFn Tryz.runUnderlying191 rfl rfl)<|Y.z<|WP.cond_f rfl ?_
 refine Y.k<|Y.qr<|Y.v (Ev.mvF rfl)<|Y.v (Ev.build (jj1 rfl))<|Y.bx (cA rfl) H ?_
 clear H; intro g7 w H
 refine Y.v (Ev.asP rfl)<|Y.z ?_
 refine WP.ret ⟨_, rfl, ?_⟩
 exact ⟨_, rfl, H⟩
end Go.Proofs.YtgcokllbophkkaaGreat
namespace Go.Proofs.YtgcokllbophkkaaGreat
open Go Go.W Go.RowKit
theorem jcG : jmO jaB := ⟨fun x y h => by unfold jaB jfY at *; simp at *; omega, fun x y z h1 h2 => by unfold jaB jfY at *; simp at *; omega⟩
theorem jd4 (gq ga cap i k : Nat) (x y p : Int) (h : List Ent) (sp : List Value) (w0 w : World) (S : List Nat) (L : List Blk) (hx : x = i) (hy : y = k) (H : SH w0 S w L) (h0 : L[0]? = some ⟨gq, 211, q8 (some ⟨ga, 0, none⟩) h.length cap p⟩) (h1 : L[1]? = some ⟨ga, 213, h.flatMap j5 ++ sp⟩) (hi : i < h.length) (hk : k < h.length) :
  Calls Tryz.prog 139 #[.pointer (some ⟨gq, 0, none⟩), I x, I y] w fun e w' => e = .returned (.bool (jaB (h.getD i default) (h.getD k default))) ∧ Below w.heap.size w w' := by
 subst hx hy
 have e1 : h.getD i default = h[i] := by simp [hi]
 have e2 : h.getD k default = h[k] := by simp [hk]
 rw [e1, e2]
 exact jhr gq cap i k (some ⟨ga, 0, none⟩) p h w (jas H 0 h0 _ 0 fun j hj => by rw [Nat.zero_add]; exact List.getElem?_eq_getElem hj) (jbL j9 H 1 h1) hi hk
theorem jfd (gq ga cap i k : Nat) (x y p : Int) (h : List Ent) (sp : List Value) (w0 w : World) (S : List Nat) (hx : x = i) (hy : y = k) (H : SH w0 S w (jaF gq ga h cap p sp)) (hi : i < h.length) (hk : k < h.length) :
  Calls Tryz.prog 140 #[.pointer (some ⟨gq, 0, none⟩), I x, I y] w fun e w' => e = .returned (.tuple #[]) ∧ SH w0 S w' (jaF gq ga (ja5 h i k) cap p sp) := by
 subst hx hy
 refine (qSwap gq ga cap i k p h sp w hi hk (H.restart (List.Sublist.refl _))).mono fun e w' ⟨he, Hc⟩ => ⟨he, ?_⟩
 exact SH.call (L1 := []) (Lv := jaF gq ga h cap p sp) H Hc
theorem qSink (gq ga cap : Nat) (p : Int) (h : List Ent) (sp : List Value) (w0 : World) (S : List Nat) (hd : jcx jaB h 0) (hl : h.length ≤ 1000000000) (H0 : SH w0 S w0 (jaF gq ga h cap p sp)) :
  Calls Tryz.prog 142 #[.pointer (some ⟨gq, 0, none⟩)] w0 fun e w' => e = .returned (.tuple #[]) ∧ ∃ h' : List Ent, h'.Perm h ∧ jaM jaB h' ∧ SH w0 S w' (jaF gq ga h' cap p sp) := by
 have H := H0
 refine Calls.ofWP Tryz.func142 rfl Tryz.results142 Tryz.ntmps142 rfl<|Y.qr<|Y.bz rfl<|WP.block<|WP.loop [2, 3, 4, 5, 6, 7, 8, 9, 10, 11, 12, 13, 14, 15, 16, 17, 18, 19, 20, 21, 22, 23, 24, 25, 26, 27, 28, 29, 30, 31, 32, 33, 34, 35, 36, 37] (fun g e w' => ∃ (i : Nat) (h1 : List Ent), e 2 = I i ∧ SH w0 S w' (jaF gq ga h1 cap p sp) ∧ h1.Perm h ∧ jcx jaB h1 i ∧ (i < h.length ∨ h = []) ∧ i + g = h.length) (h.length) (⟨0, h, rfl, H, List.Perm.refl _, hd, by cases h with | nil => exact .inr rfl | cons x t => exact .inl (by simp), by omega⟩) ?_
 clear H
 rintro g u w ⟨i, h1, h2, H, hp, hd1, hi, hg⟩
 refine WP.know (t := 2) h2 ?_
 have hlen := hp.length_eq
 unfold jaF q8 at H
 refine WP.block<|Y.qr<|Y.a rfl<|Y.bz rfl<|Y.qq<|Y.a rfl<|Y.v (Ev.mul rfl rfl (by unfold fits; omega))<|Y.P rfl<|Y.bz rfl<|WP.block<|WP.loop [3, 4, 9, 10, 11, 12, 13, 14, 15, 16, 17, 18, 19, 20, 21, 22, 23, 24, 25, 26, 27, 28, 29] (fun g2 e w' => ∃ k f : Nat, e 4 = I k ∧ e 3 = I f ∧ SH w0 S w' (jaF gq ga h1 cap p sp) ∧ jbD jaB h1 i k f ∧ 2 * i + 1 ≤ k ∧ k + g2 = 2 * i + 3) (2) (⟨2 * i + 1, i, rfl, rfl, H, jbD.start jcG h1 i, by omega, by omega⟩) ?_
 clear H
 rintro g2 u2 w ⟨k, f, h4, h3, H, hF, hk1, hk2⟩
 refine WP.know (t := 4) h4 (WP.know (t := 3) h3 ?_)
 unfold jaF q8 at H
 refine Y.qq<|Y.a rfl<|Y.a rfl<|Y.v (Ev.mul rfl rfl (by unfold fits; omega))<|Y.P rfl<|Y.v (Ev.leq rfl rfl)<|Y.B rfl<|Y.gm rfl<|Y.g rfl rfl (fun hg => Ev.mvP rfl)<|Y.g rfl rfl (fun hg => Ev.nilCheckP (gvE hg rfl))<|Y.g rfl rfl (fun hg => Ev.fieldAddr (jaf rfl) (gvE hg rfl))<|Y.yy H 0 rfl<|Y.g rfl rfl (fun hg => Ev.len (x7 rfl) (gvE hg rfl))<|Y.g rfl rfl (fun hg => Ev.lss (gvE hg rfl) (gvE hg rfl))<|Y.pa rfl<|Y.z ?_
 refine WP.cond rfl (fun hc3 => ?_) (fun hc3 => ?_)
 ·have hkl : k ≤ 2 * i + 2 ∧ k < h1.length := by simp at hc3; omega
  have hfl : f < h1.length := by rcases hF.place with q | q <;> omega
  refine Y.k<|Y.q<|WP.block<|Y.qr<|Y.D rfl<|Y.a rfl<|Y.a rfl<|Y.cl 28 rfl (jd4 gq ga cap k f _ _ p h1 sp w0 w S _ rfl rfl H rfl rfl hkl.2 hfl) H ?_
  clear H; intro w H
  refine Y.z ?_
  refine WP.cond rfl (fun hc5 => ?_) (fun hc5 => ?_)
  ·have hF2 := hF.take jcG (by omega) hkl.2 (by omega) hc5
   refine Y.r<|Y.a rfl<|Y.bz rfl<|Y.r<|Y.a rfl<|Y.P rfl<|Y.bz rfl ?_
   exact ⟨Y.ag, g2 - 1, by omega, k + 1, _, rfl, rfl, H, hF2, by omega, by omega⟩
  have hF2 := hF.keep hc5
  refine Y.k<|Y.r<|Y.a rfl<|Y.P rfl<|Y.bz rfl ?_
  exact ⟨Y.ag, g2 - 1, by omega, k + 1, _, rfl, rfl, H, hF2, by omega, by omega⟩
 have hdn : 2 * i + 2 < k ∨ h1.length ≤ k := by simp at hc3; omega
 have hall := hF.done hdn
 refine WP.exit<|XB.hit<|Y.qq<|Y.a rfl<|Y.a rfl<|Y.v (Ev.eql rfl rfl)<|Y.z ?_
 refine WP.cond rfl (fun hc7 => ?_) (fun hc7 => ?_)
 ·refine WP.ret ⟨_, rfl, ?_⟩
  have hfi : f = i := by simp at hc7; omega
  subst hfi
  exact ⟨rfl, h1, hp, hd1.done hall, H⟩
 have hfi : f ≠ i := by simp at hc7; omega
 obtain ⟨q1, q2, q3⟩ : 0 < f ∧ (f - 1) / 2 = i ∧ f < h1.length := by rcases hF.place with q | q; exact absurd q hfi; exact q
 have hil : i < h1.length := by omega
 refine Y.k<|Y.qr<|Y.D rfl<|Y.a rfl<|Y.a rfl<|Y.c2 36 rfl (jfd gq ga cap i f _ _ p h1 sp w0 w S rfl rfl H hil q3) ?_
 rintro _ w ⟨rfl, H2⟩
 refine ⟨_, rfl, ?_⟩
 replace H := H2; clear H2
 refine Y.z<|Y.r<|Y.a rfl<|Y.bz rfl ?_
 exact ⟨Y.ag, h.length - f, by omega, f, ja5 h1 i f, rfl, H, (jcD hil q3).trans hp, hd1.step hil q3 q1 q2 hF.le hall, .inl (by omega), by omega⟩
end Go.Proofs.YtgcokllbophkkaaGreat
namespace Go.Proofs.YtgcokllbophkkaaGreat
open Go Go.W Go.RowKit
abbrev jfr (A : Option Addr) (cap : Nat) (h : List Ent) (Lo : List Blk) : Prop := OwnS A cap h.length (h.flatMap j5) 213 4 Lo
def qLv (gq : Nat) (A : Option Addr) (cap : Nat) (h : List Ent) (p : Int) (Lo : List Blk) : List Blk := ⟨gq, 211, q8 A h.length cap p⟩ :: Lo
theorem jgN (h : List Ent) : ((h.flatMap j5).all (·.oneCell')) = true := by
 rw [List.all_eq_true]; intro v hv
 obtain ⟨x, _, hx⟩ := List.mem_flatMap.1 hv
 simp only [j5, List.mem_cons, List.not_mem_nil, or_false] at hx
 rcases hx with rfl | rfl | rfl | rfl <;> rfl
theorem jkW (gq cap : Nat) (A : Option Addr) (p nd ds de : Int) (h : List Ent) (Lo : List Blk) (w0 : World) (S : List Nat) (hO : jfr A cap h Lo) (hh : jaM jaB h) (hl : h.length ≤ 1000000) (hp : 0 ≤ p ∧ p ≤ 1000000000) (H0 : SH w0 S w0 (qLv gq A cap h p Lo)) :
  Calls Tryz.prog 124 #[.pointer (some ⟨gq, 0, none⟩), .agg #[I nd, I ds, I de]] w0 fun e w' => e = .returned (.tuple #[]) ∧ ∃ (A' : Option Addr) (cap' : Nat) (h' : List Ent) (Lo' : List Blk),
   h'.Perm (h ++ [⟨nd, ds, de, p⟩]) ∧ jaM jaB h' ∧ jfr A' cap' h' Lo' ∧ SH w0 S w' (qLv gq A' cap' h' (p + 1) Lo') := by
 have H := H0
 unfold qLv q8 at H
 refine Calls.ofWP Tryz.func124 rfl Tryz.results124 Tryz.ntmps124 rfl<|Y.qr<|Y.bx (cA rfl) H ?_
 clear H; intro g3 w H
 refine Y.z<|Y.qq<|Y.D rfl<|Y.v (Ev.eqlPn Tryz.runUnderlying186 rfl rfl)<|Y.z<|WP.cond_f rfl ?_
 refine Y.k<|Y.q ?_
 have Hf := H
 replace H := H.reidx (L' := [⟨g3, 189, [I nd, I ds, I de]⟩]) [0] (by decide) rfl
 refine WP.rheldC [7, 8, 9, 10, 11, 12, 13, 14, 15, 16, 17, 18, 19, 20, 21] (fun _ w' => ∃ (ga : Nat) (sp : List Value) (cap' : Nat), OwnS (some ⟨ga, 0, none⟩) cap' (h.length + 1) (h.flatMap j5 ++ j5 ⟨nd, ds, de, p⟩) 213 4 [⟨ga, 213, (h.flatMap j5 ++ j5 ⟨nd, ds, de, p⟩) ++ sp⟩] ∧ SH w0 S w' [⟨gq, 211, q8 (some ⟨ga, 0, none⟩) (h.length + 1) cap' p⟩, ⟨ga, 213, (h.flatMap j5 ++ j5 ⟨nd, ds, de, p⟩) ++ sp⟩]) mixed H ?_ ?_
 ·clear H; intro w hbw2 H
  refine Y.t 0 H rfl rfl (fun w H => Ev.mvP rfl)<|Y.t 1 H rfl rfl (fun w H => Ev.mvP rfl)<|Y.t 2 H rfl rfl (fun w H => Ev.nilCheckP rfl)<|Y.tf 3 H rfl<|Y.t 5 H rfl rfl (fun w H => Y.o H 0 rfl rfl)<|Y.t 6 H rfl rfl (fun w H => Ev.mvP rfl)<|Y.t 7 H rfl rfl (fun w H => Ev.nilCheckP rfl)<|Y.tf 8 H rfl ?_
  refine Y.A2 4 9 rfl rfl rfl ?_ ?_
  ·try replace Hf := Hf.toBelow hbw2
   refine Y.v (Y.l Hf 1 rfl rfl rfl)<|Y.z <| ⟨(H), ?_⟩
   refine Y.A1 9 rfl rfl ?_
   try replace Hf := Hf.toBelow hbw2
   refine Y.v (Y.l Hf 1 rfl rfl rfl)<|Y.z <| ⟨(H), ?_⟩
   refine Y.t 10 H rfl rfl (fun w H => Ev.build (je6 rfl rfl))<|Y.A1 11 rfl rfl<|OPS.buildSlice rfl rfl rfl rfl (jdE rfl) Hf ?_
   clear H Hf; intro g18 w Hf
   have H := Hf.reidx (L' := [⟨g3, 189, [I nd, I ds, I de]⟩]) [1] (by decide) rfl
   refine Y.z <| ⟨(H), ?_⟩
   refine Y.A1 12 rfl rfl<|OPS.append (m := 1) (news := j5 ⟨nd, ds, de, p⟩) (R := [⟨g18, 213, j5 ⟨nd, ds, de, p⟩⟩, ⟨g3, 189, [I nd, I ds, I de]⟩, ⟨gq, 211, q8 A h.length cap p⟩]) rfl rfl rfl rfl rfl (z8 rfl) rfl rfl hO rfl (y0 Hf 0 rfl) rfl (by omega) (by unfold maxLen; omega) Hf (List.Perm.refl _) ?_
   clear H Hf hO; intro A' cap' Lo w hO Hf
   obtain ⟨ga, sp, rfl, rfl, _, _, hsl⟩ : ∃ g sp, A' = some ⟨g, 0, none⟩ ∧ Lo = [⟨g, 213, (h.flatMap j5 ++ j5 ⟨nd, ds, de, p⟩) ++ sp⟩] ∧ h.length + 1 ≤ cap' ∧ cap' ≤ maxLen ∧ ((h.flatMap j5 ++ j5 ⟨nd, ds, de, p⟩) ++ sp).length = cap' * 4 := by
    rcases hO.form with ⟨_, h, _⟩ | h
    ·omega
    ·exact h
   unfold q8 at Hf
   have H := Hf.reidx (L' := [⟨g3, 189, [I nd, I ds, I de]⟩]) [1] (by decide) rfl
   refine Y.z <| ⟨(H), ?_⟩
   refine Y.t 13 H rfl rfl (fun w H => Ev.nilCheckP rfl)<|Y.tf 14 H rfl<|Y.A1 15 rfl rfl<|Y.st 2 Hf rfl (cS rfl) rfl ?_
   clear H Hf; intro w Hf
   have H := Hf.reidx (L' := [⟨g3, 189, [I nd, I ds, I de]⟩]) [1] (by decide) rfl
   replace Hf := Hf.reidx (L' := [⟨gq, 211, q8 (some ⟨ga, 0, none⟩) (h.length + 1) cap' p⟩, ⟨ga, 213, (h.flatMap j5 ++ j5 ⟨nd, ds, de, p⟩) ++ sp⟩]) [2, 3] (by decide) rfl
   refine Y.z <| ⟨(H), ?_⟩
   refine Y.dn ?_
   exact ⟨Y.ag, ga, sp, cap', hO, Hf⟩
  ·try replace Hf := Hf.toBelow hbw2
   refine Y.v (Y.l Hf 1 rfl rfl rfl)<|Y.z <| ⟨(H), ?_⟩
   refine Y.t 10 H rfl rfl (fun w H => Ev.build (je6 rfl rfl)) ?_
   refine Y.A2 4 11 rfl rfl rfl ?_ ?_
   ·try replace Hf := Hf.toBelow hbw2
    refine Y.v (Y.l Hf 1 rfl rfl rfl)<|Y.z <| ⟨(H), ?_⟩
    refine Y.A1 11 rfl rfl<|OPS.buildSlice rfl rfl rfl rfl (jdE rfl) Hf ?_
    clear H Hf; intro g18 w Hf
    have H := Hf.reidx (L' := [⟨g3, 189, [I nd, I ds, I de]⟩]) [1] (by decide) rfl
    refine Y.z <| ⟨(H), ?_⟩
    refine Y.A1 12 rfl rfl<|OPS.append (m := 1) (news := j5 ⟨nd, ds, de, p⟩) (R := [⟨g18, 213, j5 ⟨nd, ds, de, p⟩⟩, ⟨g3, 189, [I nd, I ds, I de]⟩, ⟨gq, 211, q8 A h.length cap p⟩]) rfl rfl rfl rfl rfl (z8 rfl) rfl rfl hO rfl (y0 Hf 0 rfl) rfl (by omega) (by unfold maxLen; omega) Hf (List.Perm.refl _) ?_
    clear H Hf hO; intro A' cap' Lo w hO Hf
    obtain ⟨ga, sp, rfl, rfl, _, _, hsl⟩ : ∃ g sp, A' = some ⟨g, 0, none⟩ ∧ Lo = [⟨g, 213, (h.flatMap j5 ++ j5 ⟨nd, ds, de, p⟩) ++ sp⟩] ∧ h.length + 1 ≤ cap' ∧ cap' ≤ maxLen ∧ ((h.flatMap j5 ++ j5 ⟨nd, ds, de, p⟩) ++ sp).length = cap' * 4 := by
     rcases hO.form with ⟨_, h, _⟩ | h
     ·omega
     ·exact h
    unfold q8 at Hf
    have H := Hf.reidx (L' := [⟨g3, 189, [I nd, I ds, I de]⟩]) [1] (by decide) rfl
    refine Y.z <| ⟨(H), ?_⟩
    refine Y.t 13 H rfl rfl (fun w H => Ev.nilCheckP rfl)<|Y.tf 14 H rfl<|Y.A1 15 rfl rfl<|Y.st 2 Hf rfl (cS rfl) rfl ?_
    clear H Hf; intro w Hf
    have H := Hf.reidx (L' := [⟨g3, 189, [I nd, I ds, I de]⟩]) [1] (by decide) rfl
    replace Hf := Hf.reidx (L' := [⟨gq, 211, q8 (some ⟨ga, 0, none⟩) (h.length + 1) cap' p⟩, ⟨ga, 213, (h.flatMap j5 ++ j5 ⟨nd, ds, de, p⟩) ++ sp⟩]) [2, 3] (by decide) rfl
    refine Y.z <| ⟨(H), ?_⟩
    refine Y.dn ?_
    exact ⟨Y.ag, ga, sp, cap', hO, Hf⟩
   ·refine OPS.buildSlice rfl rfl rfl rfl (jdE rfl) Hf ?_
    clear H Hf; intro g18 w Hf
    have H := Hf.reidx (L' := [⟨g3, 189, [I nd, I ds, I de]⟩]) [1] (by decide) rfl
    refine Y.z <| ⟨(H), ?_⟩
    refine Y.A1 4 rfl rfl ?_
    try replace Hf := Hf.toBelow hbw2
    refine Y.v (Y.l Hf 2 rfl rfl rfl)<|Y.z <| ⟨(H), ?_⟩
    refine Y.A1 12 rfl rfl<|OPS.append (m := 1) (news := j5 ⟨nd, ds, de, p⟩) (R := [⟨g18, 213, j5 ⟨nd, ds, de, p⟩⟩, ⟨g3, 189, [I nd, I ds, I de]⟩, ⟨gq, 211, q8 A h.length cap p⟩]) rfl rfl rfl rfl rfl (z8 rfl) rfl rfl hO rfl (y0 Hf 0 rfl) rfl (by omega) (by unfold maxLen; omega) Hf (List.Perm.refl _) ?_
    clear H Hf hO; intro A' cap' Lo w hO Hf
    obtain ⟨ga, sp, rfl, rfl, _, _, hsl⟩ : ∃ g sp, A' = some ⟨g, 0, none⟩ ∧ Lo = [⟨g, 213, (h.flatMap j5 ++ j5 ⟨nd, ds, de, p⟩) ++ sp⟩] ∧ h.length + 1 ≤ cap' ∧ cap' ≤ maxLen ∧ ((h.flatMap j5 ++ j5 ⟨nd, ds, de, p⟩) ++ sp).length = cap' * 4 := by
     rcases hO.form with ⟨_, h, _⟩ | h
     ·omega
     ·exact h
    unfold q8 at Hf
    have H := Hf.reidx (L' := [⟨g3, 189, [I nd, I ds, I de]⟩]) [1] (by decide) rfl
    refine Y.z <| ⟨(H), ?_⟩
    refine Y.t 13 H rfl rfl (fun w H => Ev.nilCheckP rfl)<|Y.tf 14 H rfl<|Y.A1 15 rfl rfl<|Y.st 2 Hf rfl (cS rfl) rfl ?_
    clear H Hf; intro w Hf
    have H := Hf.reidx (L' := [⟨g3, 189, [I nd, I ds, I de]⟩]) [1] (by decide) rfl
    replace Hf := Hf.reidx (L' := [⟨gq, 211, q8 (some ⟨ga, 0, none⟩) (h.length + 1) cap' p⟩, ⟨ga, 213, (h.flatMap j5 ++ j5 ⟨nd, ds, de, p⟩) ++ sp⟩]) [2, 3] (by decide) rfl
    refine Y.z <| ⟨(H), ?_⟩
    refine Y.dn ?_
    exact ⟨Y.ag, ga, sp, cap', hO, Hf⟩
 clear H
 rintro u w ⟨ga, sp, cap', hO, H⟩
 have e1 : (h ++ [(⟨nd, ds, de, p⟩ : Ent)]).flatMap j5 = h.flatMap j5 ++ j5 ⟨nd, ds, de, p⟩ := by simp
 have e2 : (h ++ [(⟨nd, ds, de, p⟩ : Ent)]).length = h.length + 1 := by simp
 rw [← e1, ← e2] at H hO
 have hup := jjA.start hh (⟨nd, ds, de, p⟩ : Ent)
 unfold q8 at H
 refine Y.qr<|Y.D rfl<|Y.C rfl<|Y.W H 0 rfl<|Y.P rfl<|Y.C rfl<|Y.F rfl<|Y.ss 0 H rfl (cI rfl) rfl ?_
 clear H; intro w H
 refine Y.z<|Y.qr<|Y.D rfl<|Y.C rfl<|Y.W H 0 rfl<|Y.E rfl<|Y.Q rfl<|Y.bz rfl<|WP.block<|WP.loop [4, 35, 36, 37, 38, 39, 40, 41, 42, 43, 44, 45, 46, 47, 48, 49, 50, 51, 52, 53] (fun g e w' => ∃ (i : Nat) (h1 : List Ent), i = g ∧ e 4 = I i ∧ SH w0 S w' (jaF gq ga h1 cap' (p + 1) sp) ∧ h1.Perm (h ++ [⟨nd, ds, de, p⟩]) ∧ jjA jaB h1 i) (h.length) (⟨h.length, h ++ [(⟨nd, ds, de, p⟩ : Ent)], rfl, by rw [show (((h ++ [(⟨nd, ds, de, p⟩ : Ent)]).length : Nat) : Int) - 1 = (h.length : Nat) from by rw [e2]; omega]; rfl, H, List.Perm.refl _, hup⟩) ?_
 clear H
 rintro g u w ⟨i, h1, rfl, h4, H, hpm, hu⟩
 refine WP.know (t := 4) h4 ?_
 have hlen := hpm.length_eq
 have hil := hu.lt'
 unfold jaF q8 at H
 refine Y.q<|Y.q ?_
 skip
 refine Y.r<|Y.a rfl<|Y.v (Ev.gtr rfl rfl)<|Y.B rfl<|Y.g rfl rfl (fun hg => Ev.mvP rfl)<|Y.gm rfl<|Y.gm rfl<|Y.g rfl rfl (fun hg => Ev.sub (gvE hg rfl) rfl (by unfold fits; omega))<|Y.g rfl rfl (fun hg => Ev.quo (gvE hg rfl) rfl (by simp at hg; omega) (by omega) (by omega))<|OPS.gcall (f := 139) (args := [.pointer (some ⟨gq, 0, none⟩), I i, I (((i : Int) - 1) / 2)]) (v := .bool (jaB (h1.getD i default) (h1.getD ((i - 1) / 2) default))) rfl rfl rfl rfl rfl (fun hg => EvC.conv (EvC.func (z7 rfl)) (l3 (gvE hg rfl) (gvE hg rfl) (gvE hg rfl))) (fun hg => jd4 gq ga cap' i ((i - 1) / 2) _ _ (p + 1) h1 sp w0 w S _ rfl (by simp at hg; omega) H rfl rfl hil (by omega)) ?_
 intro w hbc; replace H := H.toBelow hbc; clear hbc
 refine Y.pa rfl<|Y.z ?_
 refine Y.i rfl (fun hc5 => ?_) fun hc5 => ?_
 ·rw [Bool.and_eq_true, decide_eq_true_eq] at hc5
  have hi0 : 0 < i := by omega
  refine Y.k<|Y.q<|WP.block<|Y.r<|Y.D rfl<|Y.a rfl<|Y.a rfl<|Y.Q rfl<|Y.v (Ev.quo rfl rfl (by omega) (by omega) (by omega))<|Y.c2 53 rfl (jfd gq ga cap' i ((i - 1) / 2) _ _ (p + 1) h1 sp w0 w S rfl (by omega) H hil (by omega)) ?_
  rintro _ w ⟨rfl, H2⟩
  refine ⟨_, rfl, ?_⟩
  replace H := H2; clear H2
  refine Y.z<|Y.r<|Y.a rfl<|Y.Q rfl<|Y.v (Ev.quo rfl rfl (by omega) (by omega) (by omega))<|Y.bz rfl ?_
  exact ⟨Y.ag, (i - 1) / 2, by omega, (i - 1) / 2, ja5 h1 i ((i - 1) / 2), rfl, by rw [show (((i - 1) / 2 : Nat) : Int) = ((i : Int) - 1) / 2 from by omega]; rfl, H, (jcD hil (by omega)).trans hpm, hu.step jcG hi0 hc5.2⟩
 refine WP.exit<|XB.hit <| ⟨_, rfl, ?_⟩
 have hfin : jaM jaB h1 := hu.done (by
  rcases Nat.eq_zero_or_pos i with h0 | h0
  ·exact .inl h0
  ·refine .inr ?_
   have q : decide ((0 : Int) < i) = true := by simp; omega
   rw [q, Bool.true_and] at hc5
   exact hc5)
 have e3 : (h1.flatMap j5).length = ((h ++ [(⟨nd, ds, de, p⟩ : Ent)]).flatMap j5).length := by rw [x8 j9, x8 j9, hlen]
 have hO2 : jfr (some ⟨ga, 0, none⟩) cap' h1 [⟨ga, 213, h1.flatMap j5 ++ sp⟩] := by
  refine ⟨x8 j9 h1, .inr ⟨ga, sp, rfl, rfl, ?_⟩⟩
  rcases hO.form with ⟨_, q, _⟩ | ⟨g', sp', q1, q2, q3, q4, q5⟩
  ·rw [e2] at q; omega
  ·have q6 : sp' = sp := by
    simp only [List.cons.injEq, Blk.mk.injEq, and_true, true_and] at q2
    exact (List.append_cancel_left q2.2).symm
   subst q6
   refine ⟨by rw [hlen]; exact q3, q4, ?_⟩
   rw [List.length_append] at q5 ⊢
   rw [e3]; exact q5
 exact ⟨rfl, _, cap', h1, _, hpm, hfin, hO2, H⟩
end Go.Proofs.YtgcokllbophkkaaGreat
namespace Go.Proofs.YtgcokllbophkkaaGreat
open Go Go.W Go.RowKit
theorem qRows {A : Option Addr} {cap gq : Nat} {p : Int} {h : List Ent} {Lo : List Blk} {w0 w : World} {S : List Nat} (hO : jfr A cap h Lo) (H : SH w0 S w (qLv gq A cap h p Lo)) : k8 4 j5 w A h := by
 rcases hO.form with ⟨_, q, _, _⟩ | ⟨g, sp, rfl, rfl, _⟩
 ·rw [List.length_eq_zero_iff.1 q]; exact k8.nil
 ·exact jbL j9 H 1 rfl
theorem jgi (h : List Ent) (z : Ent) (hl : 0 < h.length) : (ja5 h 0 (h.length - 1)).set (h.length - 1) z = jfH h ++ [z] := by
 have e : (ja5 h 0 (h.length - 1)).length = h.length := y6 ..
 rw [List.set_eq_take_append_cons_drop, if_pos (by omega), List.drop_eq_nil_of_le (by omega)]; rfl
def popV (x : Ent) (b : Bool) : Value := .tuple #[labV x, .bool b]
theorem qPop (gq cap : Nat) (A : Option Addr) (p : Int) (h : List Ent) (Lo : List Blk) (w0 : World) (S : List Nat) (hO : jfr A cap h Lo) (hh : jaM jaB h) (hl : h.length ≤ 1000000) (H0 : SH w0 S w0 (qLv gq A cap h p Lo)) :
  Calls Tryz.prog 125 #[.pointer (some ⟨gq, 0, none⟩)] w0 fun e w' =>
   (h = [] ∧ e = .returned (popV ⟨0, 0, 0, 0⟩ false) ∧ SH w0 S w' (qLv gq A cap h p Lo)) ∨
   ∃ (x : Ent) (t h' : List Ent) (Lo' : List Blk), h = x :: t ∧ e = .returned (popV x true) ∧ (x :: h').Perm h ∧ jaM jaB h' ∧ jfr A cap h' Lo' ∧ SH w0 S w' (qLv gq A cap h' p Lo') := by
 have H := H0
 have hrow : ∀ w, SH w0 S w (qLv gq A cap h p Lo) → k8 4 j5 w A h := fun w H => qRows hO H
 refine Calls.ofWPc Tryz.func125 rfl Tryz.results125 Tryz.ntmps125 rfl<|Y.qr<|Y.al H rfl rfl ?_
 clear H; intro g2 w H
 refine Y.aB rfl<|Y.z<|Y.q ?_
 have Hq := H.reidx (L' := [⟨gq, 211, q8 A h.length cap p⟩]) [1] (by decide) rfl
 have hr1 := hrow w (Y.d1 H)
 have hq1 : jak w gq 0 (q8 A h.length cap p) := jas H 1 rfl _ 0 fun j hj => by rw [Nat.zero_add]; exact List.getElem?_eq_getElem hj
 clear Hq
 refine Y.r<|Y.D rfl<|Y.cl 9 rfl (qPeek gq cap A p h _ hq1 hr1) H ?_
 clear H; intro w H
 refine Y.T rfl<|Y.G rfl<|Y.G rfl<|Y.al H rfl rfl ?_
 clear H; intro g4 w H
 refine Y.ss 0 H rfl (cA rfl) rfl ?_
 clear H; intro w H
 refine Y.aB rfl<|Y.z<|Y.qq<|Y.B rfl<|Y.v (Ev.not rfl)<|Y.z ?_
 refine Y.i rfl (fun hc2 => ?_) fun hc2 => ?_
 ·have h0 : h = [] := by cases h with | nil => rfl | cons x t => simp at hc2
  subst h0
  refine Y.qr<|Y.O H 0 rfl<|Y.ss 1 H rfl (cA rfl) rfl ?_
  clear H; intro w H
  refine Y.aB rfl<|Y.z ?_
  refine WP.ret ⟨[_, _], ⟨(by exact x6 1 H rfl (j6 rfl) (j4 rfl) (by rfl) rfl), rfl, trivial⟩, ?_⟩
  exact .inl ⟨rfl, rfl, H.drop (Y.sc.trans Y.sc)⟩
 obtain ⟨x, t, rfl⟩ : ∃ x t, h = x :: t := by cases h with | nil => simp at hc2 | cons x t => exact ⟨x, t, rfl⟩
 obtain ⟨ga, sp, rfl, rfl, hcap, hmx, hsl⟩ : ∃ g sp, A = some ⟨g, 0, none⟩ ∧ Lo = [⟨g, 213, (x :: t).flatMap j5 ++ sp⟩] ∧ (x :: t).length ≤ cap ∧ cap ≤ maxLen ∧ ((x :: t).flatMap j5 ++ sp).length = cap * 4 := by
  rcases hO.form with ⟨_, h, _⟩ | h
  ·simp at h
  ·exact h
 simp only [List.length_cons] at hcap hl
 have hlc : (x :: t).length = t.length + 1 := rfl
 unfold qLv q8 at H
 refine Y.k<|Y.qr<|Y.D rfl<|Y.C rfl<|Y.W H 2 rfl<|Y.E rfl<|Y.Q rfl<|Y.bz rfl<|Y.qr<|Y.D rfl<|Y.a rfl<|Y.c2 23 rfl (jfd gq ga cap 0 t.length _ _ p (x :: t) sp w w (jaF gq ga (x :: t) cap p sp |>.map (·.g)) rfl (by simp only [List.length_cons]; omega) (SH.restart H (Lv := jaF gq ga (x :: t) cap p sp) (Y.sc.trans Y.sc)) (by simp) (by simp)) ?_
 rintro _ w ⟨rfl, H2⟩
 refine ⟨_, rfl, ?_⟩
 replace H := SH.call (Lv := jaF gq ga (x :: t) cap p sp) (L1 := [_, _]) H H2
 clear H2
 unfold jaF q8 at H
 rw [y6] at H
 refine Y.z<|Y.qr<|Y.D rfl<|Y.C rfl<|Y.W H 2 rfl<|Y.a rfl<|Y.v (Ev.sliceFrom2 (j := t.length) (x7 rfl) (j4 rfl) rfl rfl (by simp only [List.length_cons]; omega) (by simp) (by omega))<|OPS.clear 3 _ rfl rfl rfl (zs := j5 ⟨0, 0, 0, 0⟩) (x7 rfl) (jd7 rfl) rfl (by decide) rfl rfl (by simp) H rfl (by simp only [List.length_append, x8 j9, y6, hlc, j9]; omega) ?_
 clear H; intro w H
 rw [show (x :: t).length - t.length = 1 from by rw [hlc]; omega, show mkL 1 (j5 ⟨0, 0, 0, 0⟩) = j5 ⟨0, 0, 0, 0⟩ from rfl, jbj _ _ _ _ (by rw [y6, hlc]; omega),
  show (ja5 (x :: t) 0 t.length).set t.length ⟨0, 0, 0, 0⟩ = jfH (x :: t) ++ [⟨0, 0, 0, 0⟩] from jgi (x :: t) _ (by simp), List.flatMap_append, List.append_assoc] at H
 refine Y.z<|Y.qr<|Y.D rfl<|Y.D rfl<|Y.C rfl<|Y.W H 2 rfl<|Y.a rfl<|Y.v (Ev.sliceTo (j := t.length) (x7 rfl) ⟨4, j4 rfl⟩ rfl rfl (by simp only [List.length_cons]; omega) (by omega))<|Y.C rfl<|Y.F rfl<|Y.ss 2 H rfl (cS rfl) rfl ?_
 clear H; intro w H
 refine Y.z<|Y.qr<|Y.D rfl<|Y.c2 40 rfl (qSink gq ga cap p (jfH (x :: t)) ([⟨0, 0, 0, 0⟩].flatMap j5 ++ sp) w (jaF gq ga (jfH (x :: t)) cap p ([⟨0, 0, 0, 0⟩].flatMap j5 ++ sp) |>.map (·.g)) (jcx.start hh) (by rw [jba, hlc]; omega) (SH.restart H (Lv := jaF gq ga (jfH (x :: t)) cap p ([⟨0, 0, 0, 0⟩].flatMap j5 ++ sp)) (by unfold jaF q8; rw [jba]; exact (Y.sc.trans Y.sc)))) ?_
 rintro _ w ⟨rfl, h', hp', hh', H2⟩
 refine ⟨_, rfl, ?_⟩
 replace H := SH.call (Lv := jaF gq ga (jfH (x :: t)) cap p ([⟨0, 0, 0, 0⟩].flatMap j5 ++ sp)) (L1 := [⟨g4, 189, ja9 x⟩, ⟨g2, 189, [I 0, I 0, I 0]⟩]) (by unfold jaF q8; rw [jba]; exact H) H2
 clear H2
 have hlen' : h'.length = t.length := by rw [hp'.length_eq, jba]; rfl
 unfold jaF ja9 at H
 refine Y.z<|Y.qr<|Y.O H 0 rfl<|Y.ss 1 H rfl (cA rfl) rfl ?_
 clear H; intro w H
 refine Y.aB rfl<|Y.z ?_
 refine WP.ret ⟨[_, _], ⟨(by exact x6 1 H rfl (j6 rfl) (j4 rfl) (by rfl) rfl), rfl, trivial⟩, ?_⟩
 refine .inr ⟨x, t, h', [⟨ga, 213, h'.flatMap j5 ++ ([⟨0, 0, 0, 0⟩].flatMap j5 ++ sp)⟩], rfl, rfl, (List.Perm.cons x hp').trans jgY, hh', ⟨x8 j9 h', .inr ⟨ga, _, rfl, rfl, by omega, hmx, ?_⟩⟩, H.drop (Y.sc.trans Y.sc)⟩
 rw [← hsl]
 simp only [List.length_append, x8 j9, hlen', hlc, List.length_cons, List.length_nil]
 omega
theorem qPop2 (gq cap : Nat) (A : Option Addr) (p : Int) (h : List Ent) (Lo : List Blk) (w0 : World) (S : List Nat) (hO : jfr A cap h Lo) (hh : jaM jaB h) (hl : h.length ≤ 1000000) (H0 : SH w0 S w0 (qLv gq A cap h p Lo)) :
  Calls Tryz.prog 125 #[.pointer (some ⟨gq, 0, none⟩)] w0 fun e w' =>
   ∃ (x : Ent) (b : Bool) (h' : List Ent) (Lo' : List Blk), e = .returned (popV x b) ∧ (b = false → h = [] ∧ h' = []) ∧ (b = true → (x :: h').Perm h ∧ ∀ z ∈ h, jfY z.secs z.edges x.secs x.edges = false) ∧ jaM jaB h' ∧ jfr A cap h' Lo' ∧ SH w0 S w' (qLv gq A cap h' p Lo') := by
 refine (qPop gq cap A p h Lo w0 S hO hh hl H0).mono fun e w' hr => ?_
 rcases hr with ⟨rfl, he, H⟩ | ⟨x, t, h', Lo', rfl, he, hp, hh', hO', H⟩
 ·exact ⟨⟨0, 0, 0, 0⟩, false, [], Lo, he, fun _ => ⟨rfl, rfl⟩, (fun h => by cases h), hh, hO, H⟩
 ·refine ⟨x, true, h', Lo', he, (fun h => by cases h), fun _ => ⟨hp, fun z hz => ?_⟩, hh', hO', H⟩
  have := hh.root_le jcG z hz
  unfold jaB at this
  simp only [Bool.or_eq_false_iff] at this
  exact this.1
end Go.Proofs.YtgcokllbophkkaaGreat
namespace Go.Proofs.YtgcokllbophkkaaGreat
open Go Go.W
structure Leg where
  secs : Int
  edges : Int
instance : Inhabited Leg := ⟨⟨0, 0⟩⟩
def jaX (x : Leg) : List Value := [I x.secs, I x.edges]
theorem jdc (x : Leg) : (jaX x).length = 2 := rfl
def fnd (found : List Bool) (v : Nat) : Bool := found.getD v false
def bst (best : List Leg) (v : Nat) : Int := (best.getD v default).secs
structure SpI (l : List Edg) (n s : Nat) (K : Nat → Bool) (D : Nat → Int) (x : Nat) (Pr : Nat → Prop) (found : List Bool) (best : List Leg) (h : List Ent) : Prop where
  flen : found.length = n
  blen : best.length = n
  ent : ∀ y ∈ h, (∃ v : Nat, v < n ∧ y.node = v ∧ K v = true ∧ D v ≤ y.secs) ∧ (0 ≤ y.edges ∧ y.edges ≤ (n : Int) - jaN found) ∧ y.secs ≤ 1000 * y.edges
  fin : ∀ v, v < n → fnd found v = true → K v = true ∧ bst best v = D v
  pend : ∀ i u v w, jb3 l i u v w → u < n → v < n → fnd found u = true → (u ≠ x ∨ Pr i) → fnd found v = true ∨ ∃ y ∈ h, y.node = v ∧ y.secs ≤ D u + w
  src : fnd found s = true ∨ ∃ y ∈ h, y.node = s ∧ y.secs ≤ 0
section
variable {l : List Edg} {n s x : Nat} {K : Nat → Bool} {D : Nat → Int} {Pr : Nat → Prop} {found : List Bool} {best : List Leg} {h : List Ent}
theorem jgn : ∀ l : List Bool, jaN l ≤ l.length := fun l => by unfold jaN; exact List.length_filter_le _ _
theorem jf6 {b v : Nat} {y : Bool} (hb : b < found.length) : fnd (found.set b y) v = if b = v then y else fnd found v := by
  unfold fnd
  by_cases h : b = v
  · subst h; simp [hb]
  · simp [h, List.getElem?_set]
theorem bst_set {b v : Nat} {y : Leg} (hb : b < best.length) : bst (best.set b y) v = if b = v then y.secs else bst best v := by
  unfold bst
  by_cases h : b = v
  · subst h; simp [hb]
  · simp [h, List.getElem?_set]
theorem SpI.mono (hI : SpI l n s K D x Pr found best h) {Pr' : Nat → Prop} (hp : ∀ i, i < l.length → Pr' i → Pr i) : SpI l n s K D x Pr' found best h :=
  { hI with pend := fun i u v w hE hu hv hf hx => hI.pend i u v w hE hu hv hf (hx.imp id (hp i hE.1)) }
theorem SpI.init (hR : RD l n s K D) (hs : s < n) : SpI l n s K D x Pr (List.replicate n false) (List.replicate n default) [⟨s, 0, 0, 0⟩] := by
  have hf : ∀ v, fnd (List.replicate n false) v = false := fun v => by by_cases hv : v < n <;> simp [fnd, hv]
  refine ⟨by simp, by simp, fun y hy => ?_, fun v _ h1 => (by rw [hf] at h1; cases h1), fun i u v w _ _ _ h1 => (by rw [hf] at h1; cases h1), .inr ⟨_, List.mem_cons_self .., rfl, Int.le_refl _⟩⟩
  simp only [List.mem_cons, List.not_mem_nil, or_false] at hy
  subst hy
  refine ⟨⟨s, hs, rfl, hR.src.1, by rw [hR.src.2]; exact Int.le_refl _⟩, ⟨Int.le_refl _, ?_⟩, by simp⟩
  have : jaN (List.replicate n false) = n := by simp [jaN]
  show (0 : Int) ≤ (n : Int) - jaN (List.replicate n false)
  omega
theorem SpI.waits (hI : SpI l n s K D x (fun _ => True) found best h) (hok : jaL n l) (hR : RD l n s K D) : ∀ v, v < n → K v = true → fnd found v = false → ∃ y ∈ h, y.secs ≤ D v := by
  have key : ∀ (m : Nat) (v : Nat), v < n → K v = true → fnd found v = false → D v ≤ m → ∃ y ∈ h, y.secs ≤ D v := by
    intro m
    induction m with
    | zero =>
      intro v hv hk hf hm
      by_cases hvs : v = s
      · subst hvs
        rcases hI.src with q | ⟨y, hy, _, q⟩
        · rw [hf] at q; cases q
        · exact ⟨y, hy, by rw [hR.src.2]; exact q⟩
      · obtain ⟨u, i, w, hu, hku, hE, hd⟩ := hR.par v hv hk hvs
        have := hR.nn u hu hku
        have := hE.pos hok
        omega
    | succ m ih =>
      intro v hv hk hf hm
      by_cases hvs : v = s
      · subst hvs
        rcases hI.src with q | ⟨y, hy, _, q⟩
        · rw [hf] at q; cases q
        · exact ⟨y, hy, by rw [hR.src.2]; exact q⟩
      · obtain ⟨u, i, w, hu, hku, hE, hd⟩ := hR.par v hv hk hvs
        have hp := hE.pos hok
        cases hfu : fnd found u with
        | true =>
          rcases hI.pend i u v w hE hu hv hfu (.inr trivial) with q | ⟨y, hy, _, q⟩
          · rw [hf] at q; cases q
          · exact ⟨y, hy, by omega⟩
        | false =>
          obtain ⟨y, hy, q⟩ := ih u hu hku hfu (by omega)
          exact ⟨y, hy, by omega⟩
  intro v hv hk hf
  exact key (D v).toNat v hv hk hf (by omega)
theorem SpI.stale (hI : SpI l n s K D x (fun _ => True) found best h) {y : Ent} {h' : List Ent} (hp : (y :: h').Perm h) {v : Nat} (hy : y.node = v) (hv : fnd found v = true) : SpI l n s K D x (fun _ => True) found best h' :=
  { hI with
    ent := fun z hz => hI.ent z (hp.subset (List.mem_cons_of_mem _ hz))
    pend := fun i u b w hE hu hb hf hx => by
      rcases hI.pend i u b w hE hu hb hf hx with q | ⟨z, hz, q1, q2⟩
      · exact .inl q
      · rcases List.mem_cons.1 (hp.symm.subset hz) with rfl | hz
        · have : b = v := by omega
          subst this; exact .inl hv
        · exact .inr ⟨z, hz, q1, q2⟩
    src := by
      rcases hI.src with q | ⟨z, hz, q1, q2⟩
      · exact .inl q
      · rcases List.mem_cons.1 (hp.symm.subset hz) with rfl | hz
        · have : s = v := by omega
          subst this; exact .inl hv
        · exact .inr ⟨z, hz, q1, q2⟩ }
theorem SpI.fresh (hI : SpI l n s K D x (fun _ => True) found best h) (hok : jaL n l) (hR : RD l n s K D) {y : Ent} {h' : List Ent} (hp : (y :: h').Perm h) (hmin : ∀ z ∈ h, jfY z.secs z.edges y.secs y.edges = false) {v : Nat} (hy : y.node = v) (hv : v < n) (hf : fnd found v = false) :
    K v = true ∧ y.secs = D v ∧ (0 ≤ y.edges ∧ y.edges < (n : Int) - jaN (found.set v true)) ∧ y.secs ≤ 1000 * y.edges ∧ SpI l n s K D v (fun _ => False) (found.set v true) (best.set v ⟨y.secs, y.edges⟩) h' := by
  have hmem : y ∈ h := hp.subset (List.mem_cons_self ..)
  obtain ⟨⟨v', _, e1, hk, hle⟩, he, hs1⟩ := hI.ent y hmem
  obtain rfl : v' = v := by omega
  obtain ⟨z, hz, hzs⟩ := hI.waits hok hR v' hv hk hf
  have h1 := hmin z hz
  unfold jfY at h1
  simp only [Bool.or_eq_false_iff, decide_eq_false_iff_not] at h1
  have hyd : y.secs = D v' := by omega
  have hvf : v' < found.length := by rw [hI.flen]; exact hv
  have hvb : v' < best.length := by rw [hI.blen]; exact hv
  have ho := jb1 found v' hvf hf
  have f1 : ∀ u, fnd (found.set v' true) u = true → u ≠ v' → fnd found u = true := fun u hu hne => by rw [jf6 hvf, if_neg (Ne.symm hne)] at hu; exact hu
  have f2 : ∀ u, fnd found u = true → fnd (found.set v' true) u = true := fun u hu => by rw [jf6 hvf]; split; rfl; exact hu
  have f3 : fnd (found.set v' true) v' = true := by rw [jf6 hvf, if_pos rfl]
  refine ⟨hk, hyd, ⟨he.1, by omega⟩, hs1, ⟨by simp [hI.flen], by simp [hI.blen], fun z hz => ?_, fun u hu h2 => ?_, fun i u b w hE hu hb hfu hx => ?_, ?_⟩⟩
  · obtain ⟨q1, q2, q3⟩ := hI.ent z (hp.subset (List.mem_cons_of_mem _ hz))
    exact ⟨q1, ⟨q2.1, by omega⟩, q3⟩
  · rw [bst_set hvb]
    by_cases hu2 : u = v'
    · subst hu2; rw [if_pos rfl]; exact ⟨hk, hyd⟩
    · rw [if_neg (Ne.symm hu2)]; exact hI.fin u hu (f1 u h2 hu2)
  · have hux : u ≠ v' := by rcases hx with q | q; exact q; exact q.elim
    rcases hI.pend i u b w hE hu hb (f1 u hfu hux) (.inr trivial) with q | ⟨z, hz, q1, q2⟩
    · exact .inl (f2 b q)
    · rcases List.mem_cons.1 (hp.symm.subset hz) with rfl | hz
      · have : b = v' := by omega
        subst this; exact .inl f3
      · exact .inr ⟨z, hz, q1, q2⟩
  · rcases hI.src with q | ⟨z, hz, q1, q2⟩
    · exact .inl (f2 s q)
    · rcases List.mem_cons.1 (hp.symm.subset hz) with rfl | hz
      · have : s = v' := by omega
        subst this; exact .inl f3
      · exact .inr ⟨z, hz, q1, q2⟩
theorem SpI.push (hI : SpI l n s K D x Pr found best h) (hok : jaL n l) (hR : RD l n s K D) {i b : Nat} {w d e p : Int} {h' : List Ent} (hE : jb3 l i x b w) (hx : x < n) (hfx : fnd found x = true) (hb : b < n) (hd : d = D x) (he : 0 ≤ e ∧ e < (n : Int) - jaN found) (hde : d ≤ 1000 * e) (hp : h'.Perm (h ++ [⟨b, d + w, e + 1, p⟩])) :
    SpI l n s K D x (fun j => Pr j ∨ j = i) found best h' := by
  have hw := hE.pos hok
  have hkx := (hI.fin x hx hfx).1
  have hcl := hR.clo i x b w hE hx hb hkx
  refine ⟨hI.flen, hI.blen, fun y hy => ?_, hI.fin, fun j u v w' hE' hu hv hf hor => ?_, ?_⟩
  · rcases List.mem_append.1 (hp.subset hy) with hy | hy
    · exact hI.ent y hy
    · simp only [List.mem_cons, List.not_mem_nil, or_false] at hy
      subst hy
      exact ⟨⟨b, hb, rfl, hcl.1, by show D b ≤ d + w; omega⟩, ⟨by show 0 ≤ e + 1; omega, by show e + 1 ≤ _; omega⟩, by show d + w ≤ 1000 * (e + 1); omega⟩
  · have old : (u ≠ x ∨ Pr j) → fnd found v = true ∨ ∃ y ∈ h', y.node = v ∧ y.secs ≤ D u + w' := fun q => by
      rcases hI.pend j u v w' hE' hu hv hf q with q | ⟨y, hy, q1, q2⟩
      · exact .inl q
      · exact .inr ⟨y, hp.symm.subset (List.mem_append_left _ hy), q1, q2⟩
    rcases hor with q | q | q
    · exact old (.inl q)
    · exact old (.inr q)
    · subst q
      obtain ⟨_, a1, a2, a3⟩ := hE
      obtain ⟨_, b1, b2, b3⟩ := hE'
      refine .inr ⟨_, hp.symm.subset (List.mem_append_right _ (List.mem_cons_self ..)), ?_, ?_⟩
      · show (b : Int) = v; omega
      · show d + w ≤ D u + w'
        have : u = x := by omega
        subst this; omega
  · rcases hI.src with q | ⟨y, hy, q1, q2⟩
    · exact .inl q
    · exact .inr ⟨y, hp.symm.subset (List.mem_append_left _ hy), q1, q2⟩
theorem SpI.pass (hI : SpI l n s K D x Pr found best h) {i : Nat} (hno : ∀ b w, jb3 l i x b w → fnd found b = true) : SpI l n s K D x (fun j => Pr j ∨ j = i) found best h :=
  { hI with pend := fun j u v w hE hu hv hf hor => by
                    rcases hor with q | q | q
                    · exact hI.pend j u v w hE hu hv hf (.inl q)
                    · exact hI.pend j u v w hE hu hv hf (.inr q)
                    · by_cases hux : u = x
                      · subst hux; subst q; exact .inl (hno v w hE)
                      · exact hI.pend j u v w hE hu hv hf (.inl hux) }
theorem SpI.done (hI : SpI l n s K D x (fun _ => True) found best []) (hok : jaL n l) (hR : RD l n s K D) : ∀ v, v < n → fnd found v = K v ∧ (K v = true → bst best v = D v) := fun v hv => by
  cases hk : K v with
  | true =>
    cases hf : fnd found v with
    | true => exact ⟨rfl, fun _ => (hI.fin v hv hf).2⟩
    | false => obtain ⟨y, hy, _⟩ := hI.waits hok hR v hv hk hf; cases hy
  | false =>
    cases hf : fnd found v with
    | true => have := (hI.fin v hv hf).1; rw [hk] at this; cases this
    | false => exact ⟨rfl, fun q => by cases q⟩
end
end Go.Proofs.YtgcokllbophkkaaGreat
