/-
 Pointers and functions compared with nil, slice expressions, clear.
-/
import Derived.Test.YthobaaefdehoiaaGreatFacts
set_option linter.all false
namespace Go.W
open Go.RowKit
section
variable {P : Program} {e : Env} {w : World} {ty t : TypeId} {x y : Operand}
theorem Ev.eqlPn {t' : TypeId} {el : TypeId} {a : Option Addr} (hU : ∀ w, (underlying t).run P w = .ok (.pointer el) w) (hx : ev e x = .pointer a) (hy : ev e y = .pointer none) : Ev P e w ty (.binOp .eql t x y t') (.bool a.isNone) :=
 ⟨fun w' _ o ho _ => by
  have hq : ∀ w, (Op.equal t (.pointer a) (.pointer none)).run P w = .ok a.isNone w := by
   intro w
   unfold Op.equal
   rw [show Op.maxDepth = 9999 + 1 from rfl, Op.equalIn]
   cases a <;> simp [hU]
  unfold execOp; rw [ho]; simp [hx, hy, eqGuard, binOp, hq]⟩
theorem Ev.eqlFn {t' : TypeId} {ps rs : Array TypeId} {v : Bool} {f : Fn} {fs cs : Array Value} (hU : ∀ w, (underlying t).run P w = .ok (.func ps rs v) w) (hx : ev e x = .func f fs cs) (hy : ev e y = .nilFunc) : Ev P e w ty (.binOp .eql t x y t') (.bool false) :=
 ⟨fun w' _ o ho _ => by
  have hq : ∀ w, (Op.equal t (.func f fs cs) .nilFunc).run P w = .ok false w := by
   intro w
   unfold Op.equal
   rw [show Op.maxDepth = 9999 + 1 from rfl, Op.equalIn]
   simp [hU]
  unfold execOp; rw [ho]; simp [hx, hy, eqGuard, binOp, hq]⟩
theorem Ev.sliceFrom2 {i : Operand} {el n cap j sz b o : Nat} {k : IntKind} {ii : Int} (hU : ∀ w, (underlying t).run P w = .ok (.slice el) w) (hs : ∀ w, (Go.sizeOf el).run P w = .ok sz w)
  (hx : ev e x = .slice (some ⟨b, o, none⟩) n cap) (hi : ev e i = .int k ii) (hj : ii = (j : Int)) (hle : j ≤ n) (hlt : j < cap) : Ev P e w ty (.slice t x (some i) none none) (.slice (some ⟨b, o + j * sz, none⟩) (n - j) (cap - j)) := by
 have h := Ev.sliceFrom (P := P) (w := w) (ty := ty) hU hs hx hi hj hle
 rw [if_neg (by omega), Option.map_some, addr_add] at h
 exact h
end
theorem SH.reidxT {w0 w : World} {S : List Nat} {L L' Lo : List Blk} (H : SH w0 S w (L ++ Lo)) (idx : List Nat) (hn : idx.Nodup) (hi : idx.map (fun i => L[i]?) = L'.map some) : SH w0 S w (L' ++ Lo) := by
 have h1 := (H.drop (List.sublist_append_left L Lo)).reidx idx hn hi
 have h2 := H.drop (List.sublist_append_right L Lo)
 have hmem : ∀ b ∈ L', b ∈ L := by
  intro b hb
  have h3 : some b ∈ idx.map (fun i => L[i]?) := by rw [hi]; exact List.mem_map_of_mem hb
  obtain ⟨i, _, h4⟩ := List.mem_map.1 h3
  exact List.mem_of_getElem? h4
 refine ⟨H.os, H.tape, H.output, H.size, H.low, fun b hb => ?_, fun b hb => ?_, ?_⟩
 ·rcases List.mem_append.1 hb with hb | hb
  ·exact h1.own b hb
  ·exact h2.own b hb
 ·rcases List.mem_append.1 hb with hb | hb
  ·exact h1.may b hb
  ·exact h2.may b hb
 ·have hd := H.nodup
  rw [List.map_append, List.nodup_append] at hd ⊢
  refine ⟨h1.nodup, h2.nodup, fun a ha b hb => ?_⟩
  obtain ⟨c, hc, rfl⟩ := List.mem_map.1 ha
  exact hd.2.2 c.g (List.mem_map_of_mem (hmem c hc)) b hb
theorem upd_comm {e : Env} {a b : Nat} {x y : Value} (h : Nat.beq a b = false) : upd (upd e a x) b y = upd (upd e b y) a x := by
 have hne : a ≠ b := fun he => by subst he; rw [Nat.beq_refl] at h; cases h
 funext j
 simp only [upd]
 cases h1 : Nat.beq j b <;> cases h2 : Nat.beq j a <;> try rfl
 exact absurd ((Nat.eq_of_beq_eq_true h2).symm.trans (Nat.eq_of_beq_eq_true h1)) hne
theorem OPH.named {P : Program} {N : Nat} {ops : Array Oper} {K : Env → World → Prop} {w0 w : World} {S : List Nat} {L : List Blk} {f f' : Nat} {ls ls' : Array Bool} {e : Env} (hf : f = f') (hl : ls = ls')
  (h : ∀ Q : Nat → Array Bool → Env → World → Prop, Q = OPH P N ops K w0 S L → Q f' ls' e w) : OPH P N ops K w0 S L f ls e w := by subst hf hl; exact h _ rfl
theorem qcast {Q : Nat → Array Bool → Env → World → Prop} {f : Nat} {ls ls' : Array Bool} {e : Env} {w : World} (hl : ls = ls') (h : Q f ls' e w) : Q f ls e w := hl ▸ h
section
variable {P : Program} {N : Nat} {ops : Array Oper} {K : Env → World → Prop} {e : Env} {w w0 : World} {S : List Nat} {L : List Blk} {rest : List Oper} {o : Oper} {t : TypeId} {x y : Operand}
theorem OPS.actv {v : Value} {w' : World} (hg : o.guard = none) (hd : o.dst = none) (hr : (execOp (ev e) o).run P w = .ok (.value v) w')
  (h : OPS P N .plain ops K rest e w') : OPS P N .plain ops K (o :: rest) e w :=
 ⟨fun a h1 h2 h3 => by
  have hn := h.run a h1 h2 h3
  rw [← h1, ← eval_eq] at hr
  simp only at hn ⊢
  unfold wpList
  rw [if_pos (wanted_none hg _)]
  refine .inl ?_
  unfold Oper.wp
  rw [hr]
  simp only [Oper.upon, hd, Act.put]
  exact hn⟩
theorem OPS.clear {el n c : Nat} {z : Value} {b : Blk} {zs : List Value} (i k : Nat) (hg : o.guard = none) (hd : o.dst = none)
  (hop : o.op = .call { callee := .builtin .clear, args := #[x], argTypes := #[t] }) (hU : ∀ w, (underlying t).run P w = .ok (.slice el) w) (hz : ∀ w, (zeroValue el).run P w = .ok z w) (hzs : z.cells = zs.toArray) (hz0 : 0 < zs.length)
  (h1 : (zs.all (·.oneCell')) = true) (hx : ev e x = .slice (some ⟨b.g, k, none⟩) n c) (hn : 0 < n) (H : SH w0 S w L) (hi : L[i]? = some b) (hk : k + n * zs.length ≤ b.cs.length)
  (h : ∀ w', SH w0 S w' (L.set i ⟨b.g, b.T, putL b.cs k (mkL n zs)⟩) → OPS P N .plain ops K rest e w') : OPS P N .plain ops K (o :: rest) e w := by
 have hm1 : ((mkL n zs).all (·.oneCell')) = true := by
  rw [List.all_eq_true] at h1 ⊢
  intro v hv
  rw [mkL, List.mem_flatten] at hv
  obtain ⟨l, hl, hv⟩ := hv
  rw [List.eq_of_mem_replicate hl] at hv
  exact h1 v hv
 obtain ⟨w', hr, H'⟩ := store_run (P := P) (mkL n zs) w L b k 0 H hi (by rw [mkL_length]; omega) hm1
 refine OPS.actv (v := .tuple #[]) (w' := w') hg hd ?_ (h w' H')
 have hzc : (Builtin.zeroCells z.cells n).toList = mkL n zs := by
  rw [hzs]
  have := mkCells n hz0
  simp only [Builtin.zeroCells] at *
  exact congrArg Array.toList this
 obtain ⟨m, rfl⟩ : ∃ m, n = m + 1 := ⟨n - 1, by omega⟩
 unfold execOp; rw [hop]
 simp [resolve, invoke, builtin, hx, Builtin.clear_, hU, hz, hzc, hr]
end
end Go.W

/-
 A slice that is nil, or fills a block of the call's own.
-/
set_option linter.all false
namespace Go.W
open Go.RowKit
def OwnL {α : Type} (T : TypeId) (enc : α → Value) (A : Option Addr) (l : List α) (L : List Blk) : Prop := (A = none ∧ l = [] ∧ L = []) ∨ ∃ g, A = some ⟨g, 0, none⟩ ∧ L = [⟨g, T, l.map enc⟩]
theorem OwnL.nil {α : Type} {T : TypeId} {enc : α → Value} : OwnL T enc none ([] : List α) [] := .inl ⟨rfl, rfl, rfl⟩
theorem OwnL.mk {α : Type} {T : TypeId} {enc : α → Value} (g : Nat) (l : List α) : OwnL T enc (some ⟨g, 0, none⟩) l [⟨g, T, l.map enc⟩] := .inr ⟨g, rfl, rfl⟩
theorem OwnL.rd {α : Type} {T : TypeId} {enc : α → Value} {A : Option Addr} {l : List α} {L L' : List Blk} {w0 w : World} {S : List Nat} (h : OwnL T enc A l L) (H : SH w0 S w L') (hs : ∀ b ∈ L, b ∈ L') : OnesAt enc w A l := by
 rcases h with ⟨rfl, rfl, rfl⟩ | ⟨g, rfl, rfl⟩
 ·exact OnesAt.nil
 ·intro k hk
  refine ⟨g, 0, rfl, ?_⟩
  obtain ⟨i, hi⟩ := List.getElem?_of_mem (hs ⟨g, T, l.map enc⟩ (by simp))
  rw [Nat.zero_add]
  refine H.ldL i hi k ?_
  show (l.map enc)[k]? = _
  rw [List.getElem?_map, List.getElem?_eq_getElem hk]; rfl
section
variable {P : Program} {N : Nat} {ops : Array Oper} {K : Env → World → Prop} {e : Env} {w w0 : World} {S : List Nat} {L : List Blk} {rest : List Oper} {o : Oper} {t : TypeId} {x y : Operand}
theorem append0_run {el sz n cap cx : Nat} {A Ax : Option Addr} {ty : TypeId} (hU : ∀ w, (underlying t).run P w = .ok (.slice el) w) (hs : ∀ w, (Go.sizeOf el).run P w = .ok sz w) (hle : n ≤ cap) (w : World) :
  (Builtin.append_ #[t, t] ty #[.slice A n cap, .slice Ax 0 cx]).run P w = .ok (.slice A n cap) w := by
 unfold Builtin.append_
 have hz : (loadCells · 0 : Addr → Sem (Array Value)) = fun _ => pure #[] := by funext a; rfl
 cases A <;> cases Ax <;> simp [hU, hs, Builtin.lenOf, Builtin.firstCells, hle, loadCells, loadCellsFrom, storeCells]
theorem OPS.appendE {d el sz bt n m cap cx : Nat} {ty2 : Array TypeId} {A Ax : Option Addr} {zs xs news : List Value} {Lo R : List Blk} (hg : o.guard = none) (hd : o.dst = some d) (hN : Nat.blt d N = true)
  (hop : o.op = .call { callee := .builtin .append, args := #[x, y], argTypes := ty2 }) (hty : ty2 = #[t, t]) (hf : SlFact P t el sz bt zs)
  (hx : ev e x = .slice A n cap) (hy : ev e y = .slice Ax m cx) (hO : OwnS A cap n xs el sz Lo) (hl : news.length = m * sz) (hs : m = 0 ∨ ∃ b o, Ax = some ⟨b, o, none⟩ ∧ cellsAt w b o news) (h1 : (news.all (·.oneCell')) = true)
  (hbd : (n + m) * bt ≤ 140737488355328) (hbd2 : n + m ≤ maxLen) (H : SH w0 S w L) (hp : L.Perm (R ++ Lo))
  (h : ∀ A' cap' Lo' w', OwnS A' cap' (n + m) (xs ++ news) el sz Lo' → SH w0 S w' (R ++ Lo') → OPS P N .plain ops K rest (upd e d (.slice A' (n + m) cap')) w') : OPS P N .plain ops K (o :: rest) e w := by
 rcases hs with rfl | hs
 ·have hn0 : news = [] := List.length_eq_zero_iff.1 (by rw [hl]; simp)
  subst hn0
  have hle : n ≤ cap := by rcases hO.form with ⟨_, q, _, _⟩ | ⟨_, _, _, _, q, _, _⟩ <;> omega
  have hsz : ∀ w, (Go.sizeOf el).run P w = .ok sz w := fun w => by
   obtain ⟨i, z, i1, i2, i3, i4, i5⟩ := hf.info
   have ht : (typeInfo el).run P w = .ok i w := by unfold typeInfo program; simp only [Sem.run_bind, Sem.run, Result.andThen_ok, i1, Sem.run_pure]
   unfold Go.sizeOf; simp only [Sem.run_bind, ht, Result.andThen_ok, i3, Sem.run_pure]
  refine OPS.act (v := .slice A n cap) (w' := w) hg hd hN ?_ (h A cap Lo w (by simpa using hO) (H.perm hp))
  unfold execOp; rw [hop, hty]
  simp only [resolve, Sem.run_bind, Sem.run_pure, Result.andThen_ok, invoke, builtin]
  have := append0_run (P := P) (t := t) (ty := o.type) (A := A) (Ax := Ax) (cx := cx) hf.undRun hsz hle w
  simp [hx, hy, this]
 ·exact OPS.append hg hd hN hop hty hf hx hy hO hl hs h1 hbd hbd2 H hp h
end
end Go.W

/-
 Plain: roads, least times.
-/
set_option linter.all false
namespace Go.Proofs.YthobaaefdehoiaaGreat
open Go Go.W
structure Edg where
 f : Int
 t : Int
 secs : Int
instance : Inhabited Edg := ⟨⟨0, 0, 0⟩⟩
def edgCells (a : Edg) : List Value := [I a.f, I a.t, I a.secs]
abbrev EdgsAt := RowsAt 3 edgCells
def isNode (n k : Int) : Bool := decide (0 ≤ k) && decide (k < n)
def edgBad (n : Int) (a : Edg) : Bool := (!isNode n a.f) || (!isNode n a.t)
def edgRange (a : Edg) : Bool := decide (a.secs < 1) || decide (1000 < a.secs)
def edgsErr (n : Int) : List Edg → Int
 | [] => 0
 | a :: l => if edgBad n a = true then 7 else if edgRange a = true then 1 else edgsErr n l
def roadErr (n : Int) (l : List Edg) : Int := if (decide (n < 1) || decide (64 < n)) = true then 1 else if (512 : Int) < l.length then 8 else edgsErr n l
theorem edgsErr_drop {n : Int} {l : List Edg} : ∀ {j : Nat}, j ≤ l.length → (∀ i (hi : i < l.length), i < j → edgBad n l[i] = false ∧ edgRange l[i] = false) → edgsErr n l = edgsErr n (l.drop j)
 | 0, _, _ => rfl
 | j + 1, hj, h => by
  rw [edgsErr_drop (j := j) (by omega) (fun i hi hij => h i hi (by omega)), List.drop_eq_getElem_cons (show j < l.length by omega), edgsErr]
  have := h j (by omega) (by omega)
  simp [this.1, this.2]
theorem edgsErr_ok {n : Int} : ∀ {l : List Edg}, edgsErr n l = 0 → ∀ a ∈ l, edgBad n a = false ∧ edgRange a = false
 | [], _, a, ha => by cases ha
 | b :: l, h, a, ha => by
  rw [edgsErr] at h
  split at h
  ·cases h
  ·rename_i h1
   split at h
   ·cases h
   ·rename_i h2
    rcases List.mem_cons.1 ha with rfl | ha
    ·exact ⟨by simpa using h1, by simpa using h2⟩
    ·exact edgsErr_ok h a ha
structure RoadOk (n : Nat) (l : List Edg) : Prop where
 n1 : 1 ≤ n
 n2 : n ≤ 64
 len : l.length ≤ 512
 nodes : ∀ a ∈ l, (0 ≤ a.f ∧ a.f < n) ∧ (0 ≤ a.t ∧ a.t < n)
 secs : ∀ a ∈ l, 1 ≤ a.secs ∧ a.secs ≤ 1000
theorem roadOk_of {n : Int} {l : List Edg} (h : roadErr n l = 0) : ∃ m : Nat, n = m ∧ RoadOk m l := by
 unfold roadErr at h
 split at h
 ·cases h
 ·rename_i h1
  split at h
  ·cases h
  ·rename_i h2
   have h1 : 1 ≤ n ∧ n ≤ 64 := by simp at h1; omega
   obtain ⟨m, rfl⟩ := Int.eq_ofNat_of_zero_le (show 0 ≤ n by omega)
   refine ⟨m, rfl, by omega, by omega, by simp at h2; omega, fun a ha => ?_, fun a ha => ?_⟩
   ·have := (edgsErr_ok h a ha).1
    simp [edgBad, isNode] at this; omega
   ·have := (edgsErr_ok h a ha).2
    simp [edgRange] at this; omega
def EdgeAt (l : List Edg) (i u v : Nat) (w : Int) : Prop := ∃ h : i < l.length, l[i].f = u ∧ l[i].t = v ∧ l[i].secs = w
inductive Walk (l : List Edg) (s : Nat) : Nat → Int → Prop
 | nil : Walk l s s 0
 | step {u v i : Nat} {c w : Int} : Walk l s u c → EdgeAt l i u v w → Walk l s v (c + w)
theorem least_ex {P : Nat → Prop} : ∀ (n : Nat), P n → ∃ m, P m ∧ ∀ k, P k → m ≤ k := by
 intro n
 induction n using Nat.strongRecOn with
 | _ n ih =>
  intro hn
  by_cases h : ∃ k, k < n ∧ P k
  ·obtain ⟨k, hk, hp⟩ := h
   exact ih k hk hp
  ·exact ⟨n, hn, fun k hk => Nat.le_of_not_lt fun hlt => h ⟨k, hlt, hk⟩⟩
structure RD (l : List Edg) (n s : Nat) (K : Nat → Bool) (D : Nat → Int) : Prop where
 src : K s = true ∧ D s = 0
 clo : ∀ i u v w, EdgeAt l i u v w → u < n → v < n → K u = true → K v = true ∧ D v ≤ D u + w
 par : ∀ v, v < n → K v = true → v ≠ s → ∃ u i w, u < n ∧ K u = true ∧ EdgeAt l i u v w ∧ D v = D u + w
 nn : ∀ v, v < n → K v = true → 0 ≤ D v
section
variable {l l' : List Edg} {n s : Nat} {K K' : Nat → Bool} {D D' : Nat → Int}
theorem EdgeAt.pos (h : RoadOk n l) {i u v : Nat} {w : Int} (hE : EdgeAt l i u v w) : 1 ≤ w ∧ w ≤ 1000 ∧ u < n ∧ v < n := by
 obtain ⟨hi, h1, h2, h3⟩ := hE
 have q1 := h.secs l[i] (List.getElem_mem hi)
 have q2 := h.nodes l[i] (List.getElem_mem hi)
 omega
theorem Walk.nn (h : RoadOk n l) {v : Nat} {c : Int} (hw : Walk l s v c) : 0 ≤ c := by
 induction hw with
 | nil => exact Int.le_refl _
 | step _ hE ih => have := hE.pos h; omega
open Classical in
theorem rd_exists (h : RoadOk n l) (hs : s < n) : ∃ K D, RD l n s K D := by
 have hleast : ∀ v, (∃ c, Walk l s v c) → ∃ c, Walk l s v c ∧ ∀ c', Walk l s v c' → c ≤ c' := fun v ⟨c, hc⟩ => by
  have h0 := hc.nn h
  obtain ⟨c, rfl⟩ := Int.eq_ofNat_of_zero_le h0
  obtain ⟨m, hm, hl⟩ := least_ex (P := fun k : Nat => Walk l s v k) c hc
  refine ⟨m, hm, fun c' hc' => ?_⟩
  obtain ⟨c', rfl⟩ := Int.eq_ofNat_of_zero_le (hc'.nn h)
  have := hl c' hc'
  omega
 let D : Nat → Int := fun v => if hv : ∃ c, Walk l s v c then (hleast v hv).choose else 0
 have hD : ∀ v (hv : ∃ c, Walk l s v c), Walk l s v (D v) ∧ ∀ c', Walk l s v c' → D v ≤ c' := fun v hv => by
  have : D v = (hleast v hv).choose := by simp only [D]; rw [dif_pos hv]
  rw [this]; exact (hleast v hv).choose_spec
 have hK : ∀ v, decide (∃ c, Walk l s v c) = true ↔ ∃ c, Walk l s v c := fun v => decide_eq_true_iff
 refine ⟨fun v => decide (∃ c, Walk l s v c), D, ⟨(hK s).2 ⟨0, .nil⟩, ?_⟩, fun i u v w hE hu hv hk => ?_, fun v hv hk hvs => ?_, fun v hv hk => ((hD v ((hK v).1 hk)).1).nn h⟩
 ·have h1 := (hD s ⟨0, .nil⟩).2 0 .nil
  have h2 := ((hD s ⟨0, .nil⟩).1).nn h
  omega
 ·have h1 := (hD u ((hK u).1 hk)).1
  have h2 := Walk.step h1 hE
  exact ⟨(hK v).2 ⟨_, h2⟩, (hD v ⟨_, h2⟩).2 _ h2⟩
 ·obtain ⟨h1, h2⟩ := hD v ((hK v).1 hk)
  generalize hc : D v = c at h1 h2
  cases h1 with
  | nil => exact absurd rfl hvs
  | @step u _ i c w hw hE =>
   have hu : ∃ c, Walk l s u c := ⟨_, hw⟩
   obtain ⟨h3, h4⟩ := hD u hu
   have h5 := h4 _ hw
   have h6 := h2 _ (Walk.step h3 hE)
   exact ⟨u, i, w, (hE.pos h).2.2.1, (hK u).2 hu, hE, by omega⟩
theorem RD.le (h : RoadOk n l) (h1 : RD l n s K D) (h2 : RD l' n s K' D') (hsub : ∀ i u v w, EdgeAt l i u v w → ∃ i', EdgeAt l' i' u v w) : ∀ v, v < n → K v = true → K' v = true ∧ D' v ≤ D v := by
 have key : ∀ (m : Nat) (v : Nat), v < n → K v = true → D v ≤ m → K' v = true ∧ D' v ≤ D v := by
  intro m
  induction m with
  | zero =>
   intro v hv hk hm
   by_cases hvs : v = s
   ·subst hvs; exact ⟨h2.src.1, by rw [h2.src.2, h1.src.2]; exact Int.le_refl _⟩
   ·obtain ⟨u, i, w, hu, hku, hE, hd⟩ := h1.par v hv hk hvs
    have := h1.nn u hu hku
    have := hE.pos h
    omega
  | succ m ih =>
   intro v hv hk hm
   by_cases hvs : v = s
   ·subst hvs; exact ⟨h2.src.1, by rw [h2.src.2, h1.src.2]; exact Int.le_refl _⟩
   ·obtain ⟨u, i, w, hu, hku, hE, hd⟩ := h1.par v hv hk hvs
    have hp := hE.pos h
    obtain ⟨q1, q2⟩ := ih u hu hku (by omega)
    obtain ⟨i', hE'⟩ := hsub i u v w hE
    obtain ⟨q3, q4⟩ := h2.clo i' u v w hE' hu hv q1
    exact ⟨q3, by omega⟩
 intro v hv hk
 exact key (D v).toNat v hv hk (by omega)
theorem RD.unique (h : RoadOk n l) (h1 : RD l n s K D) (h2 : RD l n s K' D') : ∀ v, v < n → K v = K' v ∧ (K v = true → D v = D' v) := fun v hv => by
 have a := h1.le h h2 (fun i u v w hE => ⟨i, hE⟩) v hv
 have b := h2.le h h1 (fun i u v w hE => ⟨i, hE⟩) v hv
 cases hk : K v with
 | true => have q1 := a hk; have q2 := b q1.1; exact ⟨q1.1.symm, fun _ => by omega⟩
 | false =>
  refine ⟨?_, fun q => by cases q⟩
  cases hk' : K' v with
  | true => have := (b hk').1; rw [hk] at this; cases this
  | false => rfl
end
end Go.Proofs.YthobaaefdehoiaaGreat

/-
  Short forms of the rules that stand most often in a walk.
-/
set_option linter.all false
namespace Go.Proofs.YthobaaefdehoiaaGreat.Y
open Go Go.W Go.RowKit
theorem ag {M : List Nat} {e' e : Env} (h : Agree M e' e := by repeat (first | exact Agree.refl _ _ | exact Agree.mix _ _ _ | refine Agree.upd rfl ?_ | refine Agree.mix2 rfl ?_)) : Agree M e' e := h
section
variable {w0 w : World} {S : List Nat} {L : List Blk} {a b c x : Blk}
theorem d1 (H : SH w0 S w (a :: L)) : SH w0 S w L := H.drop (List.sublist_cons_self _ _)
theorem d2 (H : SH w0 S w (a :: b :: L)) : SH w0 S w L := d1 (d1 H)
theorem d3 (H : SH w0 S w (a :: b :: c :: L)) : SH w0 S w L := d1 (d2 H)
theorem d4 (H : SH w0 S w (a :: b :: c :: x :: L)) : SH w0 S w L := d1 (d3 H)
end
section
variable {N : Nat} {md : Md} {ops : Array Oper} {K : Env → World → Prop} {e : Env} {w w0 : World} {S : List Nat} {L : List Blk} {rest : List Oper} {d : Nat} {ty t : TypeId} {pos : String} {aft : Array Edge} {x1 y1 : Operand}
theorem v {op : Op} {v : Value} (hE : Ev Tryz.prog e w ty op v) (h : OPS Tryz.prog N md ops K rest (upd e d v) w) (hN : Nat.blt d N = true := by rfl) : OPS Tryz.prog N md ops K ({ dst := some d, op := op, type := ty, pos := pos, after := aft, guard := none } :: rest) e w := OPS.val rfl rfl hN hE h
theorem g {op : Op} {v : Value} {j dj : Nat} {want b : Bool} (hj : ops[j]?.bind (·.dst) = some dj) (hb : e dj = .bool b) (hE : b = want → Ev Tryz.prog e w ty op v) (h : OPS Tryz.prog N md ops K rest (upd e d (gv b want v)) w) (hN : Nat.blt d N = true := by rfl) : OPS Tryz.prog N md ops K ({ dst := some d, op := op, type := ty, pos := pos, after := aft, guard := some (j, want) } :: rest) e w := OPS.gval rfl hj hb rfl hN hE h
theorem m {k : IntKind} {n : Int} (hx : ev e x1 = .int k n) : Ev Tryz.prog e w ty (.move x1) (.int k n) := Ev.mvI hx
theorem f {s k off b o : Nat} (hp : fldT s k = some off) (ha : ev e x1 = .pointer (some ⟨b, o, none⟩)) : Ev Tryz.prog e w ty (.fieldAddr s x1 k) (.pointer (some ⟨b, o + off, none⟩)) := Ev.fieldAddr (fld_run hp) ha
theorem l {g k : Nat} {T : TypeId} {cs : List Value} {v : Value} (H : SH w0 S w L) (i : Nat) (ha : ev e x1 = .pointer (some ⟨g, k, none⟩)) (hi : L[i]? = some ⟨g, T, cs⟩) (hk : cs[k]? = some v) (hA : aggT t = some false := by rfl) : Ev Tryz.prog e w ty (.load t x1) v := Ev.load1 (agg_run hA) ha (H.ldL i hi k hk)
theorem c {a : Addr} {v : Value} (hc : w.cell? a = some v) (ha : ev e x1 = .pointer (some a)) (hA : aggT t = some false := by rfl) : Ev Tryz.prog e w ty (.load t x1) v := Ev.load1 (agg_run hA) ha hc
theorem o {g : Nat} {T : TypeId} {cs : List Value} (H : SH w0 S w L) (i : Nat) (ha : ev e x1 = .pointer (some ⟨g, 0, none⟩)) (hi : L[i]? = some ⟨g, T, cs⟩) (hA : aggT t = some true := by rfl) (hl : sizeT t = some cs.length := by rfl) : Ev Tryz.prog e w ty (.load t x1) (.agg cs.toArray) := Ev.loadO i H hi (agg_run hA) (size_run hl) rfl ha
theorem x {el b o n cap j : Nat} {k : IntKind} {ii : Int} (hu : elT t = some el) (hx : ev e x1 = .slice (some ⟨b, o, none⟩) n cap) (hi : ev e y1 = .int k ii) (hj : ii = (j : Int)) (hlt : j < n := by omega) (hs : sizeT el = some 1 := by rfl) : Ev Tryz.prog e w ty (.indexAddr t x1 y1) (.pointer (some ⟨b, o + j, none⟩)) := Ev.indexAddr1 (el_run hu) (size_run hs) hx hi hj hlt
theorem X {el sz b o n cap j : Nat} {k : IntKind} {ii : Int} (hu : elT t = some el) (hs : sizeT el = some sz) (hx : ev e x1 = .slice (some ⟨b, o, none⟩) n cap) (hi : ev e y1 = .int k ii) (hj : ii = (j : Int)) (hlt : j < n := by omega) : Ev Tryz.prog e w ty (.indexAddr t x1 y1) (.pointer (some ⟨b, o + j * sz, none⟩)) := Ev.indexAddr (el_run hu) (size_run hs) hx hi hj hlt
theorem n {el n cap : Nat} {A : Option Addr} (hx : ev e x1 = .slice A n cap) (hu : elT t = some el := by rfl) : Ev Tryz.prog e w ty (.call { callee := .builtin .len, args := #[x1], argTypes := #[t] }) (.int .i64 n) := Ev.len (el_run hu) hx
theorem p {t' : TypeId} {a b : Int} (hx : ev e x1 = .int .i64 a) (hy : ev e y1 = .int .i64 b) (h : fits (a + b) := by unfold fits; omega) : Ev Tryz.prog e w ty (.binOp .add t x1 y1 t') (.int .i64 (a + b)) := Ev.add hx hy h
theorem s {t' : TypeId} {a b : Int} (hx : ev e x1 = .int .i64 a) (hy : ev e y1 = .int .i64 b) (h : fits (a - b) := by unfold fits; omega) : Ev Tryz.prog e w ty (.binOp .sub t x1 y1 t') (.int .i64 (a - b)) := Ev.sub hx hy h
theorem st {vs : List Value} {k g : Nat} {T : TypeId} {cs : List Value} (i : Nat) (H : SH w0 S w L) (hx : ev e x1 = .pointer (some ⟨g, k, none⟩)) (hv : (ev e y1).cells = vs.toArray) (hi : L[i]? = some ⟨g, T, cs⟩)
    (h : ∀ w', SH w0 S w' (L.set i ⟨g, T, putL cs k vs⟩) → OPS Tryz.prog N .plain ops K rest e w') (hs : sizeT t = some vs.length := by rfl) (h1 : (vs.all (·.oneCell')) = true := by rfl) (hk : k + vs.length ≤ cs.length := by simp) : OPS Tryz.prog N .plain ops K ({ dst := none, op := .store t x1 y1, type := ty, pos := pos, after := aft, guard := none } :: rest) e w :=
  OPS.store (b := ⟨g, T, cs⟩) i k rfl rfl rfl (size_run hs) hx hv rfl h1 H hi hk h
theorem bx {cs : List Value} (hx : (ev e x1).cells = cs.toArray) (H : SH w0 S w L) (h : ∀ g w', SH w0 S w' (⟨g, t, cs⟩ :: L) → OPS Tryz.prog N .plain ops K rest (upd e d (.pointer (some ⟨g, 0, none⟩))) w') (hN : Nat.blt d N = true := by rfl) : OPS Tryz.prog N .plain ops K ({ dst := some d, op := .box t x1, type := ty, pos := pos, after := aft, guard := none } :: rest) e w := OPS.box rfl rfl hN rfl hx H h
theorem z (h : K e w) : OPS Tryz.prog N .plain ops K [] e w := OPS.nil h
theorem al {z : Value} {cs : List Value} (H : SH w0 S w L) (hz : zeroT t = some z) (hx : z.cells = cs.toArray) (h : ∀ g w', SH w0 S w' (⟨g, t, cs⟩ :: L) → OPS Tryz.prog N .plain ops K rest (upd e d (.pointer (some ⟨g, 0, none⟩))) w') (hN : Nat.blt d N = true := by rfl) : OPS Tryz.prog N .plain ops K ({ dst := some d, op := .alloc t, type := ty, pos := pos, after := aft, guard := none } :: rest) e w :=
  OPS.alloc rfl rfl hN rfl (zero_run hz) hx H h
theorem a {k : IntKind} {n : Int} (hx : ev e x1 = .int k n) (h : OPS Tryz.prog N md ops K rest (upd e d (.int k n)) w) (hN : Nat.blt d N = true := by rfl) : OPS Tryz.prog N md ops K ({ dst := some d, op := .move x1, type := ty, pos := pos, after := aft, guard := none } :: rest) e w := v (m hx) h hN
theorem b {k : IntKind} {n : Int} (hx : ev e x1 = .int k n) (h : OPS Tryz.prog N md ops K rest (upd e d (.int k n)) w) (hN : Nat.blt d N = true := by rfl) : OPS Tryz.prog N md ops K ({ dst := some d, op := .assign x1, type := ty, pos := pos, after := aft, guard := none } :: rest) e w := v (Ev.asI hx) h hN
theorem fa {s k off b o : Nat} (hp : fldT s k = some off) (ha : ev e x1 = .pointer (some ⟨b, o, none⟩)) (h : OPS Tryz.prog N md ops K rest (upd e d (.pointer (some ⟨b, o + off, none⟩))) w) (hN : Nat.blt d N = true := by rfl) : OPS Tryz.prog N md ops K ({ dst := some d, op := .fieldAddr s x1 k, type := ty, pos := pos, after := aft, guard := none } :: rest) e w := v (f hp ha) h hN
theorem j {g k : Nat} {T : TypeId} {cs : List Value} {v : Value} (H : SH w0 S w L) (i : Nat) (ha : ev e x1 = .pointer (some ⟨g, k, none⟩)) (hi : L[i]? = some ⟨g, T, cs⟩) (hk : cs[k]? = some v) (h : OPS Tryz.prog N md ops K rest (upd e d v) w) (hN : Nat.blt d N = true := by rfl) (hA : aggT t = some false := by rfl) : OPS Tryz.prog N md ops K ({ dst := some d, op := .load t x1, type := ty, pos := pos, after := aft, guard := none } :: rest) e w := Y.v (l H i ha hi hk hA) h hN
theorem y {j dj : Nat} {want b : Bool} (hj : ops[j]?.bind (·.dst) = some dj) (hb : e dj = .bool b) (H : SH w0 S w L) (i : Nat) {g c : Nat} {T : TypeId} {cs : List Value} {v : Value} (ha : b = want → ev e x1 = .pointer (some ⟨g, c, none⟩)) (hi : L[i]? = some ⟨g, T, cs⟩) (hk : cs[c]? = some v) (h : OPS Tryz.prog N md ops K rest (upd e d (gv b want v)) w) (hN : Nat.blt d N = true := by rfl) (hA : aggT t = some false := by rfl) : OPS Tryz.prog N md ops K ({ dst := some d, op := .load t x1, type := ty, pos := pos, after := aft, guard := some (j, want) } :: rest) e w := Y.g hj hb (fun hg => Ev.load1 (agg_run hA) (ha hg) (H.ldL i hi c hk)) h hN
theorem mk {el sz bt m : Nat} {n : Int} {k k' : IntKind} {zs : List Value} (H : SH w0 S w L) (hf : SlFact Tryz.prog t el sz bt zs)
    (h : ∀ g w', SH w0 S w' (⟨g, el, mkL m zs⟩ :: L) → OPS Tryz.prog N .plain ops K rest (upd e d (.slice (some ⟨g, 0, none⟩) m m)) w') (hN : Nat.blt d N = true := by rfl) (hx : ev e x1 = .int k n := by first | rfl | assumption) (hy : ev e y1 = .int k' n := by first | rfl | assumption) (hn : n = (m : Int) := by rfl) (hb : bt * m ≤ 140737488355328 := by omega) (hm : m ≤ 9223372036854775807 := by omega) : OPS Tryz.prog N .plain ops K ({ dst := some d, op := .makeSlice t x1 y1, type := ty, pos := pos, after := aft, guard := none } :: rest) e w :=
  OPS.makeSlice rfl rfl hN rfl hf hx hy hn hb hm H h
theorem ss {vs : List Value} {k g n : Nat} {T : TypeId} {cs : List Value} {L' : List Blk} (i : Nat) (H : SH w0 S w L) (hx : ev e x1 = .pointer (some ⟨g, k, none⟩)) (hv : (ev e y1).cells = vs.toArray) (hi : L[i]? = some ⟨g, T, cs⟩)
    (h : ∀ w', SH w0 S w' L' → OPS Tryz.prog N .plain ops K rest e w') (hs : sizeT t = some n := by rfl) (hn : vs.length = n := by rfl) (hL : L.set i ⟨g, T, putL cs k vs⟩ = L' := by first | (simp only [List.set_cons_zero, List.set_cons_succ, putL, Nat.zero_add] <;> rfl) | rfl) (h1 : (vs.all (·.oneCell')) = true := by rfl) (hk : k + n ≤ cs.length := by simp) : OPS Tryz.prog N .plain ops K ({ dst := none, op := .store t x1 y1, type := ty, pos := pos, after := aft, guard := none } :: rest) e w :=
  OPS.store (b := ⟨g, T, cs⟩) i k rfl rfl rfl (size_run hs) hx hv hn h1 H hi hk (hL ▸ h)
end
section
variable {N : Nat} {ops : Array Oper} {K : Env → World → Prop} {e : Env} {w w0 : World} {S : List Nat} {L : List Blk} {fuel f : Nat} {listed : Array Bool}
theorem t (i : Nat) {d : Nat} {op : Op} {ty : TypeId} {pos : String} {aft : Array Edge} {v : Value} (H : SH w0 S w L) (hi : ops[i]? = some { dst := some d, op := op, type := ty, pos := pos, after := aft, guard := none }) (hfu : fuel = f + 1) (hE : ∀ w', SH w0 S w' L → Ev Tryz.prog e w' ty op v)
    (h : OPH Tryz.prog N ops K w0 S L f (listed.setIfInBounds i true) (upd e d v) w) (hN : Nat.blt d N = true := by rfl) (hs : Region.noSelect ops = true := by kernel_rfl) (hf : Region.free .any ops listed i = true := by kernel_rfl) (hr : (Region.ready .any ops listed).contains i = true := by kernel_rfl) : OPH Tryz.prog N ops K w0 S L fuel listed e w :=
  OPH.take i hi rfl rfl hN hs hf hr hfu H hE h
def All {α : Type} (p : α → Prop) : List α → Prop
  | [] => True
  | a :: l => p a ∧ All p l
theorem all_mem {α : Type} {p : α → Prop} : ∀ {l : List α}, All p l → ∀ a ∈ l, p a
  | [], _, a, h => by cases h
  | b :: l, h, a, ha => by
    rcases List.mem_cons.1 ha with rfl | ha
    · exact h.1
    · exact all_mem h.2 a ha
theorem A (rs : List Nat) (hfu : fuel = f + 1) (h : All (fun i => ∃ o, ops[i]? = some o ∧ OPS Tryz.prog N .plain ops (fun e' w' => SH w0 S w' L ∧ OPH Tryz.prog N ops K w0 S L f (listed.setIfInBounds i true) e' w') [o] e w) rs) (hr : Region.ready .any ops listed = rs := by kernel_rfl) (hne : rs ≠ [] := by simp) : OPH Tryz.prog N ops K w0 S L fuel listed e w :=
  OPH.all rs hr hne hfu (all_mem h)
theorem dn (h : K e w) (hr : Region.ready .any ops listed = [] := by kernel_rfl) : OPH Tryz.prog N ops K w0 S L fuel listed e w := OPH.done hr h
theorem A1 (i : Nat) {o : Oper} (hfu : fuel = f + 1) (ho : ops[i]? = some o) (h : OPS Tryz.prog N .plain ops (fun e' w' => SH w0 S w' L ∧ OPH Tryz.prog N ops K w0 S L f (listed.setIfInBounds i true) e' w') [o] e w) (hr : Region.ready .any ops listed = [i] := by kernel_rfl) : OPH Tryz.prog N ops K w0 S L fuel listed e w :=
  A [i] hfu ⟨⟨o, ho, h⟩, trivial⟩ hr
theorem A2 (i i2 : Nat) {o o2 : Oper} (hfu : fuel = f + 1) (ho : ops[i]? = some o) (ho2 : ops[i2]? = some o2) (h : OPS Tryz.prog N .plain ops (fun e' w' => SH w0 S w' L ∧ OPH Tryz.prog N ops K w0 S L f (listed.setIfInBounds i true) e' w') [o] e w) (h2 : OPS Tryz.prog N .plain ops (fun e' w' => SH w0 S w' L ∧ OPH Tryz.prog N ops K w0 S L f (listed.setIfInBounds i2 true) e' w') [o2] e w) (hr : Region.ready .any ops listed = [i, i2] := by kernel_rfl) : OPH Tryz.prog N ops K w0 S L fuel listed e w :=
  A [i, i2] hfu ⟨⟨o, ho, h⟩, ⟨o2, ho2, h2⟩, trivial⟩ hr
end
section
variable {N : Nat} {Kn : Env → World → Prop} {Kx : Nat → Env → World → Prop} {Kr : Env → World → Prop} {e : Env} {w : World} {id : Nat}
theorem q {x y : Code} (h : WP Tryz.prog N x (fun e w => WP Tryz.prog N y Kn Kx Kr e w) Kx Kr e w) : WP Tryz.prog N (.seq x y) Kn Kx Kr e w := WP.seq h
theorem r {l : List Oper} (h : OPS Tryz.prog N .plain l.toArray Kn l e w) : WP Tryz.prog N (.region id l.toArray false) Kn Kx Kr e w := WP.region h
theorem qr {l : List Oper} {y : Code} (h : OPS Tryz.prog N .plain l.toArray (fun e w => WP Tryz.prog N y Kn Kx Kr e w) l e w) : WP Tryz.prog N (.seq (.region id l.toArray false) y) Kn Kx Kr e w := WP.seq (WP.region h)
theorem k (h : Kn e w) : WP Tryz.prog N .skip Kn Kx Kr e w := WP.skip h
structure Hold (p : Prop) : Prop where
  out : p
theorem go {G G' : Prop} (k : G') (h : Hold G' → G := by
  intro k
  repeat (first
    | refine WP.seq ?_ | refine WP.region ?_ | refine OPS.nil ?_ | refine WP.skip ?_ | refine WP.block ?_ | refine XB.hit ?_ | refine XB.miss rfl ?_ | refine WP.exit ?_ | refine WP.label ?_ | refine OPS.nil_s ?_
    | refine Y.v (by first | exact Y.m rfl | exact Y.f rfl rfl | exact Ev.asI rfl | exact Ev.mvS rfl | exact Ev.asS rfl | exact Ev.mvB rfl | exact Ev.asB rfl | exact Y.n rfl | exact Ev.lss rfl rfl | exact Ev.eql rfl rfl | exact Ev.neq rfl rfl | exact Ev.gtr rfl rfl | exact Ev.leq rfl rfl | exact Ev.geq rfl rfl | exact Y.l (by assumption) 0 rfl rfl rfl | exact Y.l (by assumption) 1 rfl rfl rfl | exact Y.l (by assumption) 2 rfl rfl rfl | exact Y.l (by assumption) 3 rfl rfl rfl | exact Y.l (by assumption) 4 rfl rfl rfl | exact Y.l (by assumption) 5 rfl rfl rfl | exact Y.l (by assumption) 6 rfl rfl rfl | exact Y.l (by assumption) 7 rfl rfl rfl | exact Y.x rfl rfl rfl rfl | exact Y.X rfl rfl rfl rfl rfl | exact Y.c (SH.ld0 (by assumption) (by assumption)) rfl | exact Y.p rfl rfl | exact Y.s rfl rfl | exact Ev.not rfl | exact Ev.mvA rfl | exact Ev.asA rfl | exact Ev.mvP rfl | exact Ev.asP rfl | exact Ev.mvF rfl | exact Ev.asF rfl | exact Ev.mvT rfl | exact Ev.extract rfl rfl | exact Ev.pickOr rfl rfl rfl | exact Ev.pickAnd rfl rfl rfl | exact Y.o (by assumption) 0 rfl rfl | exact Y.o (by assumption) 1 rfl rfl | exact Y.o (by assumption) 2 rfl rfl | exact Y.o (by assumption) 3 rfl rfl | exact Y.o (by assumption) 4 rfl rfl | exact Y.o (by assumption) 5 rfl rfl | exact Y.o (by assumption) 6 rfl rfl | exact Ev.nilCheckP rfl | exact Ev.nilCheckF rfl | exact Ev.makeFunc) ?_
    | refine Y.g rfl rfl (fun hg => by first | exact Ev.mvI (by first | rfl | exact gvE hg rfl) | exact Ev.mvS (by first | rfl | exact gvE hg rfl) | exact Ev.mvB (by first | rfl | exact gvE hg rfl) | exact Ev.mvP (by first | rfl | exact gvE hg rfl) | exact Ev.mvA (by first | rfl | exact gvE hg rfl) | exact Ev.fieldAddr (fld_run rfl) (by first | rfl | exact gvE hg rfl) | exact Ev.lss (by first | rfl | exact gvE hg rfl) (by first | rfl | exact gvE hg rfl) | exact Ev.eql (by first | rfl | exact gvE hg rfl) (by first | rfl | exact gvE hg rfl) | exact Ev.neq (by first | rfl | exact gvE hg rfl) (by first | rfl | exact gvE hg rfl) | exact Ev.gtr (by first | rfl | exact gvE hg rfl) (by first | rfl | exact gvE hg rfl) | exact Ev.leq (by first | rfl | exact gvE hg rfl) (by first | rfl | exact gvE hg rfl) | exact Ev.geq (by first | rfl | exact gvE hg rfl) (by first | rfl | exact gvE hg rfl) | exact Ev.load1 (agg_run rfl) (by first | rfl | exact gvE hg rfl) (SH.ldL (by assumption) 0 rfl _ rfl) | exact Ev.load1 (agg_run rfl) (by first | rfl | exact gvE hg rfl) (SH.ldL (by assumption) 1 rfl _ rfl) | exact Ev.load1 (agg_run rfl) (by first | rfl | exact gvE hg rfl) (SH.ldL (by assumption) 2 rfl _ rfl) | exact Ev.load1 (agg_run rfl) (by first | rfl | exact gvE hg rfl) (SH.ldL (by assumption) 3 rfl _ rfl) | exact Ev.load1 (agg_run rfl) (by first | rfl | exact gvE hg rfl) (SH.ldL (by assumption) 4 rfl _ rfl) | exact Ev.len (el_run rfl) (by first | rfl | exact gvE hg rfl) | exact Ev.not (by first | rfl | exact gvE hg rfl) | exact Ev.indexAddr1 (el_run rfl) (size_run rfl) (by first | rfl | exact gvE hg rfl) (by first | rfl | exact gvE hg rfl) rfl (by omega) | exact Ev.indexAddr (el_run rfl) (size_run rfl) (by first | rfl | exact gvE hg rfl) (by first | rfl | exact gvE hg rfl) rfl (by omega)) ?_)
  exact Y.Hold.out k) : G := h ⟨k⟩
end
end Go.Proofs.YthobaaefdehoiaaGreat.Y

/-
 Walks: the priority queue of stops: less, before, swap, Len, Peek.
-/
set_option linter.all false
namespace Go.Proofs.YthobaaefdehoiaaGreat
open Go Go.W Go.RowKit
structure Ent where
 node : Int
 secs : Int
 edges : Int
 n : Int
instance : Inhabited Ent := ⟨⟨0, 0, 0, 0⟩⟩
def labCells (x : Ent) : List Value := [I x.node, I x.secs, I x.edges]
def entCells (x : Ent) : List Value := [I x.node, I x.secs, I x.edges, I x.n]
theorem entCells_len (x : Ent) : (entCells x).length = 4 := rfl
def qCells (A : Option Addr) (n cap : Nat) (p : Int) : List Value := [.func (.func 80) #[] #[], .slice A n cap, I p]
def legLt (s e s2 e2 : Int) : Bool := decide (s < s2) || (decide (s = s2) && decide (e < e2))
def entLt (x y : Ent) : Bool := legLt x.secs x.edges y.secs y.edges || (!legLt y.secs y.edges x.secs x.edges && decide (x.n < y.n))
theorem legBefore (s e s2 e2 : Int) (w0 : World) :
  Calls Tryz.prog 81 #[.agg #[I s, I e], .agg #[I s2, I e2]] w0 fun r w' => r = .returned (.bool (legLt s e s2 e2)) ∧ Below w0.heap.size w0 w' := by
 have H := SH.refl w0
 refine Calls.ofWP Tryz.func81 rfl Tryz.results81 Tryz.ntmps81 rfl <| Y.qr <| Y.bx (cA rfl) H ?_
 clear H; intro g2 w H
 refine Y.bx (cA rfl) H ?_
 clear H; intro g3 w H
 refine Y.v (Ev.asB rfl) <| Y.z <| Y.qr <| Y.fa rfl rfl <| Y.j H 1 rfl rfl rfl <| Y.fa rfl rfl <| Y.j H 0 rfl rfl rfl <| Y.v (Ev.lss rfl rfl) <| Y.v (Ev.mvB rfl) <| Y.g rfl rfl (fun hg => Y.f rfl rfl) <| Y.y rfl rfl H 1 (fun hg => gvE hg rfl) rfl rfl <| Y.g rfl rfl (fun hg => Y.f rfl rfl) <| Y.y rfl rfl H 0 (fun hg => gvE hg rfl) rfl rfl <| Y.g rfl rfl (fun hg => Ev.eql (gvE hg rfl) (gvE hg rfl)) <| Y.g rfl rfl (fun hg => Ev.mvB (gvE hg rfl)) <| OPS.gvalN rfl rfl (GB.g rfl) rfl rfl (fun hg => Ev.fieldAddr (fld_run rfl) rfl) <| OPS.gvalN rfl rfl (GB.g rfl) rfl rfl (fun hg => Ev.load1 (agg_run rfl) (gvE hg rfl) (H.ldL 1 rfl _ rfl)) <| OPS.gvalN rfl rfl (GB.g rfl) rfl rfl (fun hg => Ev.fieldAddr (fld_run rfl) rfl) <| OPS.gvalN rfl rfl (GB.g rfl) rfl rfl (fun hg => Ev.load1 (agg_run rfl) (gvE hg rfl) (H.ldL 0 rfl _ rfl)) <| OPS.gvalN rfl rfl (GB.g rfl) rfl rfl (fun hg => Ev.lss (gvE hg rfl) (gvE hg rfl)) <| Y.g rfl rfl (fun hg => Ev.pickAnd2 (beqT hg) (gvE hg rfl) rfl rfl) <| Y.v (Ev.pickOr rfl rfl rfl) <| Y.v (Ev.asB rfl) <| Y.z ?_
 refine WP.ret ⟨_, rfl, ?_⟩
 exact ⟨rfl, H.below⟩
theorem qLess (a s e b s2 e2 : Int) (w0 : World) :
  Calls Tryz.prog 80 #[.agg #[I a, I s, I e], .agg #[I b, I s2, I e2]] w0 fun r w' => r = .returned (.bool (legLt s e s2 e2)) ∧ Below w0.heap.size w0 w' := by
 have H := SH.refl w0
 refine Calls.ofWP Tryz.func80 rfl Tryz.results80 Tryz.ntmps80 rfl <| Y.qr <| Y.bx (cA rfl) H ?_
 clear H; intro g2 w H
 refine Y.bx (cA rfl) H ?_
 clear H; intro g3 w H
 refine Y.v (Ev.asB rfl) <| Y.z <| Y.qr <| Y.fa rfl rfl <| Y.v (Ev.loadN [_, _] (agg_run rfl) (size_run rfl) rfl ⟨H.ldL 1 rfl _ rfl, H.ldL 1 rfl _ rfl, trivial⟩) <| Y.fa rfl rfl <| Y.v (Ev.loadN [_, _] (agg_run rfl) (size_run rfl) rfl ⟨H.ldL 0 rfl _ rfl, H.ldL 0 rfl _ rfl, trivial⟩) <| OPS.call (d := some 9) rfl rfl rfl (EvC.func (fun_run rfl)) (legBefore _ _ _ _ _) ?_
 rintro _ w ⟨rfl, hb⟩
 refine ⟨_, rfl, ?_⟩
 replace H := H.toBelow hb; clear hb
 refine Y.v (Ev.asB rfl) <| Y.z ?_
 refine WP.ret ⟨_, rfl, ?_⟩
 exact ⟨rfl, H.below⟩
theorem qLen (gq n cap : Nat) (A : Option Addr) (p : Int) (w0 : World) (hq : cellsAt w0 gq 0 (qCells A n cap p)) :
  Calls Tryz.prog 104 #[.pointer (some ⟨gq, 0, none⟩)] w0 fun e w' => e = .returned (I n) ∧ Below w0.heap.size w0 w' := by
 have H := SH.refl w0
 obtain ⟨q0, q1, q2, _⟩ := hq
 refine Calls.ofWP Tryz.func104 rfl Tryz.results104 Tryz.ntmps104 rfl <| Y.qr <| Y.b rfl <| Y.z <| Y.q <| Y.qr <| Y.v (Ev.mvP rfl) <| Y.v (Ev.eqlPn Tryz.runUnderlying165 rfl rfl) <| Y.z <| WP.cond_f rfl ?_
 refine Y.k <| Y.qr <| Y.v (Ev.mvP rfl) <| Y.v (Ev.nilCheckP rfl) <| Y.fa rfl rfl <| Y.v (Y.c (H.ld0 (by assumption)) rfl) ?_
 refine Y.v (Y.n rfl) <| Y.b rfl <| Y.z ?_
 refine WP.ret ⟨_, rfl, ?_⟩
 exact ⟨rfl, H.below⟩
theorem qBefore (gq cap i k : Nat) (A : Option Addr) (p : Int) (h : List Ent) (w0 : World) (hq : cellsAt w0 gq 0 (qCells A h.length cap p)) (hr : RowsAt 4 entCells w0 A h) (hi : i < h.length) (hk : k < h.length) :
  Calls Tryz.prog 95 #[.pointer (some ⟨gq, 0, none⟩), I i, I k] w0 fun e w' => e = .returned (.bool (entLt h[i] h[k])) ∧ Below w0.heap.size w0 w' := by
 have H := SH.refl w0
 obtain ⟨q0, q1, q2, _⟩ := hq
 obtain ⟨b, o, rfl, hx⟩ := hr i hi
 obtain ⟨_, _, e1, hy⟩ := hr k hk
 cases e1
 refine Calls.ofWP Tryz.func95 rfl Tryz.results95 Tryz.ntmps95 rfl <| Y.qr <| Y.v (Ev.asB rfl) <| Y.z <| Y.q ?_
 refine WP.rheldC [7, 8, 9, 10, 11, 12, 13, 14, 15, 16, 17, 18, 19, 20, 21, 22] (fun u w' => ∃ g7 g8, u 7 = .pointer (some ⟨g7, 0, none⟩) ∧ u 8 = .pointer (some ⟨g8, 0, none⟩) ∧ SH w0 [] w' [⟨g8, 188, entCells h[k]⟩, ⟨g7, 188, entCells h[i]⟩]) mixed H ?_ ?_
 ·clear H; intro w hbw1 H
  refine Y.t 0 H rfl rfl (fun w H => Ev.mvP rfl) <| Y.t 1 H rfl rfl (fun w H => Ev.nilCheckP rfl) <| Y.t 2 H rfl rfl (fun w H => Y.f rfl rfl) <| Y.t 3 H rfl rfl (fun w H => Y.c (H.ld0 (by assumption)) rfl) ?_
  refine Y.t 4 H rfl rfl (fun w H => Y.m rfl) <| Y.t 5 H rfl rfl (fun w H => Y.X rfl rfl rfl rfl rfl) ?_
  refine OPH.take 6 rfl rfl rfl rfl (by kernel_rfl) (by kernel_rfl) (by kernel_rfl) rfl (by exact H) (fun w H => (by (change Ev _ _ _ _ (Op.load 188 (Operand.tmp 14)) _; refine Ev.loadN (b := b) (o := o + i * 4) (entCells h[i]) ?_ ?_ ?_ (cellsAt_sh H hx); exact agg_run rfl; exact size_run rfl; rfl))) ?_
  refine Y.t 7 H rfl rfl (fun w H => Ev.mvP rfl) <| Y.t 8 H rfl rfl (fun w H => Ev.nilCheckP rfl) <| Y.t 9 H rfl rfl (fun w H => Y.f rfl rfl) <| Y.t 10 H rfl rfl (fun w H => Y.c (H.ld0 (by assumption)) rfl) ?_
  refine Y.t 11 H rfl rfl (fun w H => Y.m rfl) <| Y.t 12 H rfl rfl (fun w H => Y.X rfl rfl rfl rfl rfl) ?_
  refine OPH.take 13 rfl rfl rfl rfl (by kernel_rfl) (by kernel_rfl) (by kernel_rfl) rfl (by exact H) (fun w H => (by (change Ev _ _ _ _ (Op.load 188 (Operand.tmp 21)) _; refine Ev.loadN (b := b) (o := o + k * 4) (entCells h[k]) ?_ ?_ ?_ (cellsAt_sh H hy); exact agg_run rfl; exact size_run rfl; rfl))) ?_
  refine Y.A2 14 15 rfl rfl rfl ?_ ?_
  ·refine Y.al H rfl rfl ?_
   clear H; intro g7 w H
   refine Y.z <| ⟨(H.drop (List.sublist_cons_self _ _)), ?_⟩
   refine Y.A1 15 rfl rfl <| Y.al H rfl rfl ?_
   clear H; intro g8 w H
   refine Y.z <| ⟨(H.drop ((List.sublist_cons_self _ _).trans (List.sublist_cons_self _ _))), ?_⟩
   refine Y.A1 16 rfl rfl <| Y.ss 1 H rfl (cA rfl) rfl ?_
   clear H; intro w H
   refine Y.z <| ⟨(H.drop ((List.sublist_cons_self _ _).trans (List.sublist_cons_self _ _))), ?_⟩
   refine Y.A1 17 rfl rfl <| Y.ss 0 H rfl (cA rfl) rfl ?_
   clear H; intro w H
   refine Y.z <| ⟨(H.drop ((List.sublist_cons_self _ _).trans (List.sublist_cons_self _ _))), ?_⟩
   refine Y.dn ?_
   exact ⟨Y.ag, g7, g8, rfl, rfl, H⟩
  ·refine Y.al H rfl rfl ?_
   clear H; intro g8 w H
   refine Y.z <| ⟨(H.drop (List.sublist_cons_self _ _)), ?_⟩
   refine Y.A1 14 rfl rfl <| Y.al H rfl rfl ?_
   clear H; intro g7 w H
   refine Y.z <| ⟨(H.drop ((List.sublist_cons_self _ _).trans (List.sublist_cons_self _ _))), ?_⟩
   refine Y.A1 16 rfl rfl <| Y.ss 0 H rfl (cA rfl) rfl ?_
   clear H; intro w H
   refine Y.z <| ⟨(H.drop ((List.sublist_cons_self _ _).trans (List.sublist_cons_self _ _))), ?_⟩
   refine Y.A1 17 rfl rfl <| Y.ss 1 H rfl (cA rfl) rfl ?_
   clear H; intro w H
   refine Y.z <| ⟨(H.drop ((List.sublist_cons_self _ _).trans (List.sublist_cons_self _ _))), ?_⟩
   refine Y.dn ?_
   exact ⟨Y.ag, g7, g8, rfl, rfl, H.reidx [1, 0] (by decide) rfl⟩
 clear H
 rintro u w ⟨g7, g8, h7, h8, H⟩
 refine WP.know (t := 7) h7 (WP.know (t := 8) h8 ?_)
 refine Y.q <| WP.block <| Y.q <| WP.rquiet mixed (by kernel_rfl) H ?_
 clear H; intro w hbw2 H
 refine Y.v (Ev.mvP rfl) <| Y.v (Ev.nilCheckP rfl) <| Y.fa rfl rfl <| Y.v (Y.c (H.ld0 (by assumption)) rfl) ?_
 refine Y.fa rfl rfl <| Y.v (by (change Ev _ _ _ _ (Op.load 168 (Operand.tmp 28)) _; exact Ev.loadN (labCells h[i]) (agg_run rfl) (size_run rfl) rfl (cellsAt_own H 1 rfl _ 0 (fun j hj => by match j with | 0 => rfl | 1 => rfl | 2 => rfl)))) <| Y.fa rfl rfl <| Y.v (by (change Ev _ _ _ _ (Op.load 168 (Operand.tmp 30)) _; exact Ev.loadN (labCells h[k]) (agg_run rfl) (size_run rfl) rfl (cellsAt_own H 0 rfl _ 0 (fun j hj => by match j with | 0 => rfl | 1 => rfl | 2 => rfl)))) <| OPS.callq rfl rfl rfl (EvC.clos rfl (fun_run rfl)) (fun w2 hb2 => qLess _ _ _ _ _ _ _) ?_
 refine Y.v (Ev.asB rfl) <| OPS.nilq H ?_
 clear H; intro w hbx2 H
 refine WP.cond rfl (fun hc2 => ?_) (fun hc2 => ?_)
 ·refine Y.qr <| Y.v (Ev.asB rfl) <| Y.z ?_
  refine WP.ret ⟨_, rfl, ?_⟩
  exact ⟨congrArg (fun b => Ending.returned (Bo b)) (show true = entLt h[i] h[k] from by simp only [entLt, hc2]; rfl), H.below⟩
 refine Y.q <| WP.rquiet mixed (by kernel_rfl) H ?_
 clear H; intro w hbw4 H
 refine Y.v (Ev.mvP rfl) <| Y.v (Ev.nilCheckP rfl) <| Y.fa rfl rfl <| Y.v (Y.c (H.ld0 (by assumption)) rfl) ?_
 refine Y.fa rfl rfl <| Y.v (by (change Ev _ _ _ _ (Op.load 168 (Operand.tmp 38)) _; exact Ev.loadN (labCells h[k]) (agg_run rfl) (size_run rfl) rfl (cellsAt_own H 0 rfl _ 0 (fun j hj => by match j with | 0 => rfl | 1 => rfl | 2 => rfl)))) <| Y.fa rfl rfl <| Y.v (by (change Ev _ _ _ _ (Op.load 168 (Operand.tmp 40)) _; exact Ev.loadN (labCells h[i]) (agg_run rfl) (size_run rfl) rfl (cellsAt_own H 1 rfl _ 0 (fun j hj => by match j with | 0 => rfl | 1 => rfl | 2 => rfl)))) <| OPS.callq rfl rfl rfl (EvC.clos rfl (fun_run rfl)) (fun w2 hb2 => qLess _ _ _ _ _ _ _) ?_
 refine Y.v (Ev.asB rfl) <| OPS.nilq H ?_
 clear H; intro w hbx4 H
 refine WP.cond rfl (fun hc4 => ?_) (fun hc4 => ?_)
 ·refine Y.qr <| Y.v (Ev.asB rfl) <| Y.z ?_
  refine WP.ret ⟨_, rfl, ?_⟩
  exact ⟨congrArg (fun b => Ending.returned (Bo b)) (show false = entLt h[i] h[k] from by simp only [entLt, hc2, hc4]; rfl), H.below⟩
 refine Y.k <| Y.qr <| Y.fa rfl rfl <| Y.j H 1 rfl rfl rfl <| Y.fa rfl rfl <| Y.j H 0 rfl rfl rfl <| Y.v (Ev.lss rfl rfl) <| Y.v (Ev.asB rfl) <| Y.z ?_
 refine WP.ret ⟨_, rfl, ?_⟩
 exact ⟨congrArg (fun b => Ending.returned (Bo b)) (show decide (h[i].n < h[k].n) = entLt h[i] h[k] from by simp only [entLt, hc2, hc4]; simp), H.below⟩
end Go.Proofs.YthobaaefdehoiaaGreat

/-
 Plain law of a binary heap: what a step upwards and a step downwards keep.
-/
set_option linter.all false
namespace Go.W
section
variable {α : Type} [Inhabited α]
def swapL (h : List α) (i k : Nat) : List α := (h.set i (h.getD k default)).set k (h.getD i default)
theorem swapL_length (h : List α) (i k : Nat) : (swapL h i k).length = h.length := by simp [swapL]
theorem swapL_perm {h : List α} {i k : Nat} (hi : i < h.length) (hk : k < h.length) : (swapL h i k).Perm h := by
 have : swapL h i k = (h.set i h[k]).set k h[i] := by simp [swapL, hi, hk]
 rw [this]
 exact List.set_set_perm hi hk
theorem swapL_at {h : List α} {i k j : Nat} (hi : i < h.length) (hk : k < h.length) : (swapL h i k).getD j default = if j = k then h.getD i default else if j = i then h.getD k default else h.getD j default := by
 simp only [swapL, List.getD_eq_getElem?_getD, List.getElem?_set, List.length_set]
 by_cases h1 : j = k
 ·subst h1; simp [hk]
 ·by_cases h2 : j = i
  ·subst h2; simp [Ne.symm h1, h1, hi]
  ·simp [Ne.symm h1, Ne.symm h2, h1, h2]
structure LtOk (lt : α → α → Bool) : Prop where
 asy : ∀ x y, lt x y = true → lt y x = false
 tra : ∀ x y z, lt y x = false → lt z y = false → lt z x = false
variable {lt : α → α → Bool}
abbrev leA (lt : α → α → Bool) (h : List α) (i k : Nat) : Prop := lt (h.getD k default) (h.getD i default) = false
theorem LtOk.refl (o : LtOk lt) (x : α) : lt x x = false := by
 cases h : lt x x with
 | false => rfl
 | true => have := o.asy x x h; rw [h] at this; cases this
def HeapOk (lt : α → α → Bool) (h : List α) : Prop := ∀ k, 0 < k → k < h.length → leA lt h ((k - 1) / 2) k
structure UpOk (lt : α → α → Bool) (h : List α) (i : Nat) : Prop where
 lt' : i < h.length
 ord : ∀ k, 0 < k → k < h.length → k ≠ i → leA lt h ((k - 1) / 2) k
 skip : ∀ k, 0 < k → k < h.length → (k - 1) / 2 = i → 0 < i → leA lt h ((i - 1) / 2) k
structure DownOk (lt : α → α → Bool) (h : List α) (i : Nat) : Prop where
 ord : ∀ k, 0 < k → k < h.length → (k - 1) / 2 ≠ i → leA lt h ((k - 1) / 2) k
 skip : ∀ k, 0 < k → k < h.length → (k - 1) / 2 = i → 0 < i → leA lt h ((i - 1) / 2) k
theorem HeapOk.nil : HeapOk lt [] := fun k _ h => by simp at h
theorem getD_append_left {l m : List α} {k : Nat} (h : k < l.length) : (l ++ m).getD k default = l.getD k default := by
 simp [List.getElem?_append_left h]
theorem UpOk.start {h : List α} (hh : HeapOk lt h) (x : α) : UpOk lt (h ++ [x]) h.length := by
 refine ⟨by simp, fun k h0 h1 h2 => ?_, fun k h0 h1 h2 h3 => ?_⟩
 ·simp only [List.length_append, List.length_cons, List.length_nil] at h1
  have hk : k < h.length := by omega
  unfold leA
  rw [getD_append_left hk, getD_append_left (by omega)]
  exact hh k h0 hk
 ·simp only [List.length_append, List.length_cons, List.length_nil] at h1; omega
theorem UpOk.done {h : List α} {i : Nat} (hu : UpOk lt h i) (hd : i = 0 ∨ leA lt h ((i - 1) / 2) i) : HeapOk lt h := fun k h0 h1 => by
 by_cases hk : k = i
 ·subst hk; rcases hd with rfl | hd
  ·omega
  ·exact hd
 ·exact hu.ord k h0 h1 hk
theorem UpOk.step (o : LtOk lt) {h : List α} {i : Nat} (hu : UpOk lt h i) (h0 : 0 < i) (hb : lt (h.getD i default) (h.getD ((i - 1) / 2) default) = true) : UpOk lt (swapL h i ((i - 1) / 2)) ((i - 1) / 2) := by
 have hi := hu.lt'
 generalize hp : (i - 1) / 2 = p at *
 have hpl : p < h.length := by omega
 have hpi : p < i := by omega
 refine ⟨by rw [swapL_length]; exact hpl, fun k k0 k1 k2 => ?_, fun k k0 k1 k2 p0 => ?_⟩
 ·rw [swapL_length] at k1
  unfold leA
  rw [swapL_at hi hpl, swapL_at hi hpl, if_neg k2]
  by_cases hki : k = i
  ·subst hki
   rw [if_pos rfl, if_pos hp]
   exact o.asy _ _ hb
  ·rw [if_neg hki]
   by_cases q1 : (k - 1) / 2 = p
   ·rw [if_pos q1]
    have := hu.ord k k0 k1 hki
    unfold leA at this
    rw [q1] at this
    exact o.tra _ _ _ (o.asy _ _ hb) this
   ·rw [if_neg q1]
    by_cases q2 : (k - 1) / 2 = i
    ·rw [if_pos q2]
     have := hu.skip k k0 k1 q2 h0
     unfold leA at this
     rw [hp] at this
     exact this
    ·rw [if_neg q2]
     exact hu.ord k k0 k1 hki
 ·rw [swapL_length] at k1
  unfold leA
  have hpp : (p - 1) / 2 ≠ p := by omega
  have hppi : (p - 1) / 2 ≠ i := by omega
  rw [swapL_at hi hpl, swapL_at hi hpl, if_neg hpp, if_neg hppi, if_neg (show k ≠ p by omega)]
  have g1 := hu.ord p p0 hpl (by omega)
  by_cases hki : k = i
  ·rw [if_pos hki]; exact g1
  ·rw [if_neg hki]
   have g2 := hu.ord k k0 k1 hki
   unfold leA at g2
   rw [k2] at g2
   exact o.tra _ _ _ g1 g2
theorem DownOk.done {h : List α} {i : Nat} (hd : DownOk lt h i) (hc : ∀ k, 0 < k → k < h.length → (k - 1) / 2 = i → leA lt h i k) : HeapOk lt h := fun k h0 h1 => by
 by_cases hk : (k - 1) / 2 = i
 ·rw [hk]; exact hc k h0 h1 hk
 ·exact hd.ord k h0 h1 hk
theorem DownOk.step {h : List α} {i f : Nat} (hd : DownOk lt h i) (hi : i < h.length) (hf : f < h.length) (hf0 : 0 < f) (hp : (f - 1) / 2 = i) (hl : leA lt h f i)
  (hc : ∀ k, 0 < k → k < h.length → (k - 1) / 2 = i → leA lt h f k) : DownOk lt (swapL h i f) f := by
 have hfi : i < f := by omega
 refine ⟨fun k k0 k1 k2 => ?_, fun k k0 k1 k2 _ => ?_⟩
 ·rw [swapL_length] at k1
  unfold leA
  rw [swapL_at hi hf, swapL_at hi hf, if_neg k2]
  by_cases q : (k - 1) / 2 = i
  ·rw [if_pos q]
   by_cases hkf : k = f
   ·rw [if_pos hkf]; exact hl
   ·rw [if_neg hkf, if_neg (show k ≠ i by omega)]
    exact hc k k0 k1 q
  ·rw [if_neg q, if_neg (show k ≠ f by intro he; subst he; exact q hp)]
   by_cases hki : k = i
   ·subst hki
    rw [if_pos rfl]
    exact hd.skip f hf0 hf hp k0
   ·rw [if_neg hki]; exact hd.ord k k0 k1 q
 ·rw [swapL_length] at k1
  unfold leA
  rw [swapL_at hi hf, swapL_at hi hf, hp, if_neg (show i ≠ f by omega), if_pos rfl, if_neg (show k ≠ f by omega), if_neg (show k ≠ i by omega)]
  have := hd.ord k k0 k1 (by omega)
  unfold leA at this
  rw [k2] at this; exact this
theorem HeapOk.root (o : LtOk lt) {h : List α} (hh : HeapOk lt h) : ∀ k, k < h.length → leA lt h 0 k := by
 intro k
 induction k using Nat.strongRecOn with
 | _ k ih =>
  intro hk
  by_cases h0 : k = 0
  ·subst h0; exact o.refl _
  ·exact o.tra _ _ _ (ih ((k - 1) / 2) (by omega) (by omega)) (hh k (by omega) hk)
theorem HeapOk.root_le (o : LtOk lt) {x : α} {t : List α} (hh : HeapOk lt (x :: t)) : ∀ y ∈ x :: t, lt y x = false := by
 intro y hy
 obtain ⟨k, hk, rfl⟩ := List.mem_iff_getElem.1 hy
 have h2 : lt ((x :: t).getD k default) ((x :: t).getD 0 default) = false := hh.root o k hk
 have e1 : (x :: t).getD k default = (x :: t)[k] := by rw [List.getD_eq_getElem?_getD, List.getElem?_eq_getElem hk]; rfl
 rw [e1] at h2
 exact h2
def popL (h : List α) : List α := (swapL h 0 (h.length - 1)).take (h.length - 1)
theorem popL_length (h : List α) : (popL h).length = h.length - 1 := by simp [popL, swapL_length]
theorem popL_at {h : List α} {j : Nat} (hj : j < h.length - 1) : (popL h).getD j default = if j = 0 then h.getD (h.length - 1) default else h.getD j default := by
 have e : (popL h).getD j default = (swapL h 0 (h.length - 1)).getD j default := by
  simp [popL, List.getElem?_take, hj]
 rw [e, swapL_at (by omega) (by omega), if_neg (by omega)]
theorem popL_perm {x : α} {t : List α} : (x :: popL (x :: t)).Perm (x :: t) := by
 have h1 := swapL_perm (h := x :: t) (i := 0) (k := t.length) (by simp) (by simp)
 refine List.Perm.trans ?_ h1
 have hlen : (swapL (x :: t) 0 t.length).length = t.length + 1 := by rw [swapL_length]; rfl
 have hlast : (swapL (x :: t) 0 t.length)[t.length]'(by omega) = x := by
  have := swapL_at (h := x :: t) (i := 0) (k := t.length) (j := t.length) (by simp) (by simp)
  simpa [hlen] using this
 have e : swapL (x :: t) 0 t.length = popL (x :: t) ++ [x] := by
  have h2 : swapL (x :: t) 0 t.length = (swapL (x :: t) 0 t.length).take t.length ++ (swapL (x :: t) 0 t.length).drop t.length := (List.take_append_drop _ _).symm
  rw [List.drop_eq_getElem_cons (by omega), hlast, List.drop_eq_nil_of_le (by omega)] at h2
  exact h2
 rw [e]
 exact (List.perm_append_comm (l₁ := [x])).trans (List.Perm.refl _) 
theorem DownOk.start {h : List α} (hh : HeapOk lt h) : DownOk lt (popL h) 0 := by
 refine ⟨fun k k0 k1 k2 => ?_, fun k _ _ _ h0 => by omega⟩
 rw [popL_length] at k1
 unfold leA
 rw [popL_at k1, popL_at (by omega), if_neg k2, if_neg (by omega)]
 exact hh k k0 (by omega)
structure FirstOk (lt : α → α → Bool) (h : List α) (i k f : Nat) : Prop where
 place : f = i ∨ (0 < f ∧ (f - 1) / 2 = i ∧ f < h.length)
 le : leA lt h f i
 all : ∀ j, 0 < j → j < h.length → (j - 1) / 2 = i → j < k → leA lt h f j
theorem FirstOk.start (o : LtOk lt) (h : List α) (i : Nat) : FirstOk lt h i (2 * i + 1) i := ⟨.inl rfl, o.refl _, fun j h0 _ h1 h2 => by omega⟩
theorem FirstOk.take (o : LtOk lt) {h : List α} {i k f : Nat} (hf : FirstOk lt h i k f) (h0 : 0 < k) (hk : k < h.length) (hp : (k - 1) / 2 = i) (hb : lt (h.getD k default) (h.getD f default) = true) : FirstOk lt h i (k + 1) k := by
 have hkf : leA lt h k f := o.asy _ _ hb
 refine ⟨.inr ⟨h0, hp, hk⟩, o.tra _ _ _ hkf hf.le, fun j j0 j1 j2 j3 => ?_⟩
 by_cases hj : j = k
 ·subst hj; exact o.refl _
 ·exact o.tra _ _ _ hkf (hf.all j j0 j1 j2 (by omega))
theorem FirstOk.keep {h : List α} {i k f : Nat} (hf : FirstOk lt h i k f) (hb : lt (h.getD k default) (h.getD f default) = false) : FirstOk lt h i (k + 1) f := by
 refine ⟨hf.place, hf.le, fun j j0 j1 j2 j3 => ?_⟩
 by_cases hj : j = k
 ·subst hj; exact hb
 ·exact hf.all j j0 j1 j2 (by omega)
theorem FirstOk.done {h : List α} {i k f : Nat} (hf : FirstOk lt h i k f) (hk : 2 * i + 2 < k ∨ h.length ≤ k) : ∀ j, 0 < j → j < h.length → (j - 1) / 2 = i → leA lt h f j := fun j j0 j1 j2 => hf.all j j0 j1 j2 (by omega)
end
end Go.W

/-
 Walk: the priority queue of stops: swap.
-/
set_option linter.all false
namespace Go.Proofs.YthobaaefdehoiaaGreat
open Go Go.W Go.RowKit
theorem putL_append : ∀ (vs a b : List Value) (k : Nat), k + vs.length ≤ a.length → putL (a ++ b) k vs = putL a k vs ++ b
 | [], _, _, _, _ => rfl
 | v :: vs, a, b, k, h => by
  simp only [List.length_cons] at h
  simp only [putL]
  rw [List.set_append_left _ _ (by omega)]
  exact putL_append vs (a.set k v) b (k + 1) (by simp; omega)
theorem putL_ents (h : List Ent) (sp : List Value) (k : Nat) (x : Ent) (hk : k < h.length) : putL (h.flatMap entCells ++ sp) (0 + k * 4) (entCells x) = (h.set k x).flatMap entCells ++ sp := by
 rw [Nat.zero_add, putL_append _ _ _ _ (by rw [rows_length entCells_len, entCells_len]; omega), putL_rows entCells_len h k x hk]
def qBlks (gq ga : Nat) (h : List Ent) (cap : Nat) (p : Int) (sp : List Value) : List Blk := [⟨gq, 186, qCells (some ⟨ga, 0, none⟩) h.length cap p⟩, ⟨ga, 188, h.flatMap entCells ++ sp⟩]
set_option maxHeartbeats 400000 in
theorem qSwap (gq ga cap i k : Nat) (p : Int) (h : List Ent) (sp : List Value) (w0 : World) (hi : i < h.length) (hk : k < h.length) (H0 : SH w0 [gq, ga] w0 (qBlks gq ga h cap p sp)) :
  Calls Tryz.prog 96 #[.pointer (some ⟨gq, 0, none⟩), I i, I k] w0 fun e w' => e = .returned (.tuple #[]) ∧ SH w0 [gq, ga] w' (qBlks gq ga (swapL h i k) cap p sp) := by
 have Hf := H0
 unfold qBlks qCells at Hf
 have H := Hf.reidx (L' := [⟨gq, 186, qCells (some ⟨ga, 0, none⟩) h.length cap p⟩]) [0] (by decide) rfl
 unfold qCells at H
 refine Calls.ofWP Tryz.func96 rfl Tryz.results96 Tryz.ntmps96 rfl ?_
 refine WP.rheldC [6, 7, 8, 9, 10, 11, 12, 13, 14, 15, 16, 17, 18, 19, 20, 21, 22, 23, 24, 25, 26, 27, 28, 29, 30, 31] (fun _ w' => SH w0 [gq, ga] w' (qBlks gq ga (swapL h i k) cap p sp)) mixed H ?_ ?_
 ·clear H; intro w hbw0 H
  refine Y.t 0 H rfl rfl (fun w H => Ev.mvP rfl) <| Y.t 1 H rfl rfl (fun w H => Ev.nilCheckP rfl) <| Y.t 2 H rfl rfl (fun w H => Y.f rfl rfl) <| Y.t 3 H rfl rfl (fun w H => Y.l H 0 rfl rfl rfl) <| Y.t 4 H rfl rfl (fun w H => Y.m rfl) <| Y.t 5 H rfl rfl (fun w H => Ev.mvP rfl) <| Y.t 6 H rfl rfl (fun w H => Ev.nilCheckP rfl) <| Y.t 7 H rfl rfl (fun w H => Y.f rfl rfl) <| Y.t 8 H rfl rfl (fun w H => Y.l H 0 rfl rfl rfl) <| Y.t 9 H rfl rfl (fun w H => Y.m rfl) <| Y.t 10 H rfl rfl (fun w H => Ev.mvP rfl) <| Y.t 11 H rfl rfl (fun w H => Ev.nilCheckP rfl) <| Y.t 12 H rfl rfl (fun w H => Y.f rfl rfl) <| Y.t 13 H rfl rfl (fun w H => Y.l H 0 rfl rfl rfl) <| Y.t 14 H rfl rfl (fun w H => Y.m rfl) <| Y.t 15 H rfl rfl (fun w H => Y.X rfl rfl rfl rfl rfl) <| Y.t 17 H rfl rfl (fun w H => Ev.mvP rfl) <| Y.t 18 H rfl rfl (fun w H => Ev.nilCheckP rfl) <| Y.t 19 H rfl rfl (fun w H => Y.f rfl rfl) <| Y.t 20 H rfl rfl (fun w H => Y.l H 0 rfl rfl rfl) <| Y.t 21 H rfl rfl (fun w H => Y.m rfl) <| Y.t 22 H rfl rfl (fun w H => Y.X rfl rfl rfl rfl rfl) ?_
  refine Y.A2 16 23 rfl rfl rfl ?_ ?_
  ·try replace Hf := Hf.toBelow hbw0
   have hx := rowsOwn entCells_len Hf 1 rfl k hk
   obtain ⟨_, _, e1, hx⟩ := hx
   cases e1
   refine OPS.val rfl rfl rfl (by refine Ev.loadN (b := ga) (o := 0 + k * 4) (entCells h[k]) ?_ ?_ ?_ hx; exact agg_run rfl; exact size_run rfl; rfl) ?_
   refine Y.z <| ⟨(H), ?_⟩
   refine Y.A1 23 rfl rfl ?_
   try replace Hf := Hf.toBelow hbw0
   have hx := rowsOwn entCells_len Hf 1 rfl i hi
   obtain ⟨_, _, e1, hx⟩ := hx
   cases e1
   refine OPS.val rfl rfl rfl (by refine Ev.loadN (b := ga) (o := 0 + i * 4) (entCells h[i]) ?_ ?_ ?_ hx; exact agg_run rfl; exact size_run rfl; rfl) ?_
   refine Y.z <| ⟨(H), ?_⟩
   refine Y.t 24 H rfl rfl (fun w H => Y.X rfl rfl rfl rfl rfl) <| Y.A1 25 rfl rfl <| OPS.store 1 _ rfl rfl rfl (size_run rfl) rfl (cA rfl) rfl rfl Hf rfl (by rw [List.length_append, rows_length entCells_len]; omega) ?_
   clear H Hf; intro w Hf
   replace Hf : SH w0 [gq, ga] w [⟨gq, 186, qCells (some ⟨ga, 0, none⟩) h.length cap p⟩, ⟨ga, 188, putL (h.flatMap entCells ++ sp) (0 + i * 4) (entCells h[k])⟩] := Hf
   rw [putL_ents h sp i _ hi] at Hf
   have H := Hf.reidx (L' := [⟨gq, 186, qCells (some ⟨ga, 0, none⟩) h.length cap p⟩]) [0] (by decide) rfl
   unfold qCells at H
   refine Y.z <| ⟨(H), ?_⟩
   refine Y.t 26 H rfl rfl (fun w H => Y.X rfl rfl rfl rfl rfl) <| Y.A1 27 rfl rfl <| OPS.store 1 _ rfl rfl rfl (size_run rfl) rfl (cA rfl) rfl rfl Hf rfl (by rw [List.length_append, rows_length entCells_len, List.length_set]; omega) ?_
   clear H Hf; intro w Hf
   replace Hf : SH w0 [gq, ga] w [⟨gq, 186, qCells (some ⟨ga, 0, none⟩) h.length cap p⟩, ⟨ga, 188, putL ((h.set i h[k]).flatMap entCells ++ sp) (0 + k * 4) (entCells h[i])⟩] := Hf
   rw [putL_ents _ sp k _ (by rw [List.length_set]; exact hk)] at Hf
   have H := Hf.reidx (L' := [⟨gq, 186, qCells (some ⟨ga, 0, none⟩) h.length cap p⟩]) [0] (by decide) rfl
   unfold qCells at H
   have hsw : swapL h i k = (h.set i h[k]).set k h[i] := by simp [swapL, hi, hk]
   refine Y.z <| ⟨(H), ?_⟩
   refine Y.dn ?_
   exact ⟨Y.ag, by rw [qBlks, swapL_length, hsw]; exact Hf⟩
  ·try replace Hf := Hf.toBelow hbw0
   have hx := rowsOwn entCells_len Hf 1 rfl i hi
   obtain ⟨_, _, e1, hx⟩ := hx
   cases e1
   refine OPS.val rfl rfl rfl (by refine Ev.loadN (b := ga) (o := 0 + i * 4) (entCells h[i]) ?_ ?_ ?_ hx; exact agg_run rfl; exact size_run rfl; rfl) ?_
   refine Y.z <| ⟨(H), ?_⟩
   refine Y.A1 16 rfl rfl ?_
   try replace Hf := Hf.toBelow hbw0
   have hx := rowsOwn entCells_len Hf 1 rfl k hk
   obtain ⟨_, _, e1, hx⟩ := hx
   cases e1
   refine OPS.val rfl rfl rfl (by refine Ev.loadN (b := ga) (o := 0 + k * 4) (entCells h[k]) ?_ ?_ ?_ hx; exact agg_run rfl; exact size_run rfl; rfl) ?_
   refine Y.z <| ⟨(H), ?_⟩
   refine Y.t 24 H rfl rfl (fun w H => Y.X rfl rfl rfl rfl rfl) <| Y.A1 25 rfl rfl <| OPS.store 1 _ rfl rfl rfl (size_run rfl) rfl (cA rfl) rfl rfl Hf rfl (by rw [List.length_append, rows_length entCells_len]; omega) ?_
   clear H Hf; intro w Hf
   replace Hf : SH w0 [gq, ga] w [⟨gq, 186, qCells (some ⟨ga, 0, none⟩) h.length cap p⟩, ⟨ga, 188, putL (h.flatMap entCells ++ sp) (0 + i * 4) (entCells h[k])⟩] := Hf
   rw [putL_ents h sp i _ hi] at Hf
   have H := Hf.reidx (L' := [⟨gq, 186, qCells (some ⟨ga, 0, none⟩) h.length cap p⟩]) [0] (by decide) rfl
   unfold qCells at H
   refine Y.z <| ⟨(H), ?_⟩
   refine Y.t 26 H rfl rfl (fun w H => Y.X rfl rfl rfl rfl rfl) <| Y.A1 27 rfl rfl <| OPS.store 1 _ rfl rfl rfl (size_run rfl) rfl (cA rfl) rfl rfl Hf rfl (by rw [List.length_append, rows_length entCells_len, List.length_set]; omega) ?_
   clear H Hf; intro w Hf
   replace Hf : SH w0 [gq, ga] w [⟨gq, 186, qCells (some ⟨ga, 0, none⟩) h.length cap p⟩, ⟨ga, 188, putL ((h.set i h[k]).flatMap entCells ++ sp) (0 + k * 4) (entCells h[i])⟩] := Hf
   rw [putL_ents _ sp k _ (by rw [List.length_set]; exact hk)] at Hf
   have H := Hf.reidx (L' := [⟨gq, 186, qCells (some ⟨ga, 0, none⟩) h.length cap p⟩]) [0] (by decide) rfl
   unfold qCells at H
   have hsw : swapL h i k = (h.set i h[k]).set k h[i] := by simp [swapL, hi, hk]
   refine Y.z <| ⟨(H), ?_⟩
   refine Y.dn ?_
   exact ⟨Y.ag, by rw [qBlks, swapL_length, hsw]; exact Hf⟩
 clear H
 rintro u w H
 refine ⟨_, rfl, ?_⟩
 exact ⟨rfl, H⟩
end Go.Proofs.YthobaaefdehoiaaGreat

/-
 Walks: the priority queue of stops: Peek, New.
-/
set_option linter.all false
namespace Go.Proofs.YthobaaefdehoiaaGreat
open Go Go.W Go.RowKit
def labV (x : Ent) : Value := .agg (labCells x).toArray
def peekV (h : List Ent) : Value := .tuple #[labV (h.headD ⟨0, 0, 0, 0⟩), .bool (!h.isEmpty)]
theorem qPeek (gq cap : Nat) (A : Option Addr) (p : Int) (h : List Ent) (w0 : World) (hq : cellsAt w0 gq 0 (qCells A h.length cap p)) (hr : RowsAt 4 entCells w0 A h) :
  Calls Tryz.prog 97 #[.pointer (some ⟨gq, 0, none⟩)] w0 fun e w' => e = .returned (peekV h) ∧ Below w0.heap.size w0 w' := by
 have H := SH.refl w0
 have hq' := hq
 obtain ⟨q0, q1, q2, _⟩ := hq
 refine Calls.ofWPc Tryz.func97 rfl Tryz.results97 Tryz.ntmps97 rfl <| Y.qr <| Y.al H rfl rfl ?_
 clear H; intro g2 w H
 refine Y.v (Ev.asB rfl) <| Y.z <| Y.q <| Y.qr <| Y.v (Ev.mvP rfl) <| OPS.call (d := some 6) rfl rfl rfl (EvC.func (fun_run rfl)) (qLen gq h.length cap A p _ (cellsAt_sh H hq')) ?_
 rintro _ w ⟨rfl, hb⟩
 refine ⟨_, rfl, ?_⟩
 replace H := H.toBelow hb; clear hb
 refine Y.v (Ev.eql rfl rfl) <| Y.z ?_
 refine WP.cond rfl (fun hc1 => ?_) (fun hc1 => ?_)
 ·have h0 : h = [] := List.length_eq_zero_iff.1 (by simp at hc1; simp [hc1])
  subst h0
  refine Y.qr <| Y.al H rfl rfl ?_
  clear H; intro g4 w H
  refine Y.z <| Y.qr <| Y.v (Y.o H 0 rfl rfl) <| Y.ss 1 H rfl (cA rfl) rfl ?_
  clear H; intro w H
  refine Y.v (Ev.asB rfl) <| Y.z ?_
  refine WP.ret ⟨[_, _], ⟨(by exact resCellA 1 H rfl (agg_run rfl) (size_run rfl) (by rfl) rfl), rfl, trivial⟩, ?_⟩
  exact ⟨rfl, H.below⟩
 have hpos : 0 < h.length := by simp at hc1; exact List.length_pos_iff.2 hc1
 obtain ⟨b, o, rfl, hx⟩ := hr 0 hpos
 obtain ⟨x, l, rfl⟩ : ∃ x l, h = x :: l := by
  cases h with
  | nil => exact absurd hpos (by simp)
  | cons x l => exact ⟨x, l, rfl⟩
 obtain ⟨x0, x1, x2, x3, _⟩ := cellsAt_sh H hx
 refine Y.k <| Y.qr <| Y.v (Ev.mvP rfl) <| Y.v (Ev.nilCheckP rfl) <| Y.fa rfl rfl <| Y.v (Y.c (H.ld0 (by assumption)) rfl) ?_
 refine Y.v (Ev.indexAddr (j := 0) (el_run rfl) (size_run rfl) rfl rfl rfl hpos) <| Y.fa rfl rfl ?_
 refine OPS.val rfl rfl rfl (by refine Ev.loadN (b := b) (o := o + 0 * 4 + 0) (labCells x) ?_ ?_ ?_ ⟨x0, x1, x2, trivial⟩; exact agg_run rfl; exact size_run rfl; rfl) ?_
 refine Y.ss 0 H rfl (cA rfl) rfl ?_
 clear H; intro w H
 refine Y.v (Ev.asB rfl) <| Y.z ?_
 refine WP.ret ⟨[_, _], ⟨(by exact resCellA 0 H rfl (agg_run rfl) (size_run rfl) (by rfl) rfl), rfl, trivial⟩, ?_⟩
 exact ⟨rfl, H.below⟩
theorem qNew (w0 : World) :
  Calls Tryz.prog 79 #[.func (.func 80) #[] #[]] w0 fun e w' => ∃ g, e = .returned (.pointer (some ⟨g, 0, none⟩)) ∧ SH w0 [] w' [⟨g, 186, qCells none 0 0 0⟩] := by
 have H := SH.refl w0
 refine Calls.ofWP Tryz.func79 rfl Tryz.results79 Tryz.ntmps79 rfl <| Y.qr <| Y.v (Ev.asP rfl) <| Y.z <| Y.q <| Y.qr <| Y.v (Ev.mvF rfl) <| Y.v (Ev.eqlFn Tryz.runUnderlying170 rfl rfl) <| Y.z <| WP.cond_f rfl ?_
 refine Y.k <| Y.qr <| Y.v (Ev.mvF rfl) <| Y.v (Ev.build (bld_186_0 rfl)) <| Y.bx (cA rfl) H ?_
 clear H; intro g7 w H
 refine Y.v (Ev.asP rfl) <| Y.z ?_
 refine WP.ret ⟨_, rfl, ?_⟩
 exact ⟨_, rfl, H⟩
end Go.Proofs.YthobaaefdehoiaaGreat

/-
 Walk: the priority queue of stops: sink.
-/
set_option linter.all false
namespace Go.Proofs.YthobaaefdehoiaaGreat
open Go Go.W Go.RowKit
theorem entLtOk : LtOk entLt := ⟨fun x y h => by unfold entLt legLt at *; simp at *; omega, fun x y z h1 h2 => by unfold entLt legLt at *; simp at *; omega⟩
theorem qBeforeI (gq ga cap i k : Nat) (x y p : Int) (h : List Ent) (sp : List Value) (w0 w : World) (S : List Nat) (L : List Blk) (hx : x = i) (hy : y = k) (H : SH w0 S w L) (h0 : L[0]? = some ⟨gq, 186, qCells (some ⟨ga, 0, none⟩) h.length cap p⟩) (h1 : L[1]? = some ⟨ga, 188, h.flatMap entCells ++ sp⟩) (hi : i < h.length) (hk : k < h.length) :
  Calls Tryz.prog 95 #[.pointer (some ⟨gq, 0, none⟩), I x, I y] w fun e w' => e = .returned (.bool (entLt (h.getD i default) (h.getD k default))) ∧ Below w.heap.size w w' := by
 subst hx hy
 have e1 : h.getD i default = h[i] := by simp [hi]
 have e2 : h.getD k default = h[k] := by simp [hk]
 rw [e1, e2]
 exact qBefore gq cap i k (some ⟨ga, 0, none⟩) p h w (cellsAt_own H 0 h0 _ 0 fun j hj => by rw [Nat.zero_add]; exact List.getElem?_eq_getElem hj) (rowsOwn entCells_len H 1 h1) hi hk
theorem qSwapI (gq ga cap i k : Nat) (x y p : Int) (h : List Ent) (sp : List Value) (w0 w : World) (S : List Nat) (hx : x = i) (hy : y = k) (H : SH w0 S w (qBlks gq ga h cap p sp)) (hi : i < h.length) (hk : k < h.length) :
  Calls Tryz.prog 96 #[.pointer (some ⟨gq, 0, none⟩), I x, I y] w fun e w' => e = .returned (.tuple #[]) ∧ SH w0 S w' (qBlks gq ga (swapL h i k) cap p sp) := by
 subst hx hy
 refine (qSwap gq ga cap i k p h sp w hi hk (H.restart (List.Sublist.refl _))).mono fun e w' ⟨he, Hc⟩ => ⟨he, ?_⟩
 exact SH.call (L1 := []) (Lv := qBlks gq ga h cap p sp) H Hc
set_option maxHeartbeats 400000 in
theorem qSink (gq ga cap : Nat) (p : Int) (h : List Ent) (sp : List Value) (w0 : World) (S : List Nat) (hd : DownOk entLt h 0) (hl : h.length ≤ 1000000000) (H0 : SH w0 S w0 (qBlks gq ga h cap p sp)) :
  Calls Tryz.prog 98 #[.pointer (some ⟨gq, 0, none⟩)] w0 fun e w' => e = .returned (.tuple #[]) ∧ ∃ h' : List Ent, h'.Perm h ∧ HeapOk entLt h' ∧ SH w0 S w' (qBlks gq ga h' cap p sp) := by
 have H := H0
 refine Calls.ofWP Tryz.func98 rfl Tryz.results98 Tryz.ntmps98 rfl <| Y.qr <| Y.b rfl <| Y.z <| WP.block <| WP.loop [2, 3, 4, 5, 6, 7, 8, 9, 10, 11, 12, 13, 14, 15, 16, 17, 18, 19, 20, 21, 22, 23, 24, 25, 26, 27, 28, 29, 30, 31, 32, 33, 34, 35, 36, 37] (fun g e w' => ∃ (i : Nat) (h1 : List Ent), e 2 = I i ∧ SH w0 S w' (qBlks gq ga h1 cap p sp) ∧ h1.Perm h ∧ DownOk entLt h1 i ∧ (i < h.length ∨ h = []) ∧ i + g = h.length) (h.length) (⟨0, h, rfl, H, List.Perm.refl _, hd, by cases h with | nil => exact .inr rfl | cons x t => exact .inl (by simp), by omega⟩) ?_
 clear H
 rintro g u w ⟨i, h1, h2, H, hp, hd1, hi, hg⟩
 refine WP.know (t := 2) h2 ?_
 have hlen := hp.length_eq
 unfold qBlks qCells at H
 refine WP.block <| Y.qr <| Y.a rfl <| Y.b rfl <| Y.z <| Y.q <| Y.qr <| Y.a rfl <| Y.v (Ev.mul rfl rfl (by unfold fits; omega)) <| Y.v (Y.p rfl rfl) <| Y.b rfl <| Y.z <| WP.block <| WP.loop [3, 4, 9, 10, 11, 12, 13, 14, 15, 16, 17, 18, 19, 20, 21, 22, 23, 24, 25, 26, 27, 28, 29] (fun g2 e w' => ∃ k f : Nat, e 4 = I k ∧ e 3 = I f ∧ SH w0 S w' (qBlks gq ga h1 cap p sp) ∧ FirstOk entLt h1 i k f ∧ 2 * i + 1 ≤ k ∧ k + g2 = 2 * i + 3) (2) (⟨2 * i + 1, i, rfl, rfl, H, FirstOk.start entLtOk h1 i, by omega, by omega⟩) ?_
 clear H
 rintro g2 u2 w ⟨k, f, h4, h3, H, hF, hk1, hk2⟩
 refine WP.know (t := 4) h4 (WP.know (t := 3) h3 ?_)
 unfold qBlks qCells at H
 refine Y.q <| Y.qr <| Y.a rfl <| Y.a rfl <| Y.v (Ev.mul rfl rfl (by unfold fits; omega)) <| Y.v (Y.p rfl rfl) <| Y.v (Ev.leq rfl rfl) <| Y.v (Ev.mvB rfl) <| Y.g rfl rfl (fun hg => Y.m rfl) <| Y.g rfl rfl (fun hg => Ev.mvP rfl) <| Y.g rfl rfl (fun hg => Ev.nilCheckP (gvE hg rfl)) <| Y.g rfl rfl (fun hg => Ev.fieldAddr (fld_run rfl) (gvE hg rfl)) <| Y.y rfl rfl H 0 (fun hg => gvE hg rfl) rfl rfl <| Y.g rfl rfl (fun hg => Ev.len (el_run rfl) (gvE hg rfl)) <| Y.g rfl rfl (fun hg => Ev.lss (gvE hg rfl) (gvE hg rfl)) <| Y.v (Ev.pickAnd rfl rfl rfl) <| Y.z ?_
 refine WP.cond rfl (fun hc3 => ?_) (fun hc3 => ?_)
 ·have hkl : k ≤ 2 * i + 2 ∧ k < h1.length := by simp at hc3; omega
  have hfl : f < h1.length := by rcases hF.place with q | q <;> omega
  refine Y.k <| Y.q <| WP.block <| Y.qr <| Y.v (Ev.mvP rfl) <| Y.a rfl <| Y.a rfl <| OPS.call (d := some 28) rfl rfl rfl (EvC.func (fun_run rfl)) (qBeforeI gq ga cap k f _ _ p h1 sp w0 w S _ rfl rfl H rfl rfl hkl.2 hfl) ?_
  rintro _ w ⟨rfl, hb⟩
  refine ⟨_, rfl, ?_⟩
  replace H := H.toBelow hb; clear hb
  refine Y.z ?_
  refine WP.cond rfl (fun hc5 => ?_) (fun hc5 => ?_)
  ·have hF2 := hF.take entLtOk (by omega) hkl.2 (by omega) hc5
   refine Y.r <| Y.a rfl <| Y.b rfl <| Y.z <| Y.r <| Y.a rfl <| Y.v (Y.p rfl rfl) <| Y.b rfl <| Y.z ?_
   exact ⟨Y.ag, g2 - 1, by omega, k + 1, _, rfl, rfl, H, hF2, by omega, by omega⟩
  have hF2 := hF.keep hc5
  refine Y.k <| Y.r <| Y.a rfl <| Y.v (Y.p rfl rfl) <| Y.b rfl <| Y.z ?_
  exact ⟨Y.ag, g2 - 1, by omega, k + 1, _, rfl, rfl, H, hF2, by omega, by omega⟩
 have hdn : 2 * i + 2 < k ∨ h1.length ≤ k := by simp at hc3; omega
 have hall := hF.done hdn
 refine WP.exit <| XB.hit <| Y.q <| Y.qr <| Y.a rfl <| Y.a rfl <| Y.v (Ev.eql rfl rfl) <| Y.z ?_
 refine WP.cond rfl (fun hc7 => ?_) (fun hc7 => ?_)
 ·refine WP.ret ⟨_, rfl, ?_⟩
  have hfi : f = i := by simp at hc7; omega
  subst hfi
  exact ⟨rfl, h1, hp, hd1.done hall, H⟩
 have hfi : f ≠ i := by simp at hc7; omega
 obtain ⟨q1, q2, q3⟩ : 0 < f ∧ (f - 1) / 2 = i ∧ f < h1.length := by rcases hF.place with q | q; exact absurd q hfi; exact q
 have hil : i < h1.length := by omega
 refine Y.k <| Y.qr <| Y.v (Ev.mvP rfl) <| Y.a rfl <| Y.a rfl <| OPS.call (d := some 36) rfl rfl rfl (EvC.func (fun_run rfl)) (qSwapI gq ga cap i f _ _ p h1 sp w0 w S rfl rfl H hil q3) ?_
 rintro _ w ⟨rfl, H2⟩
 refine ⟨_, rfl, ?_⟩
 replace H := H2; clear H2
 refine Y.z <| Y.r <| Y.a rfl <| Y.b rfl <| Y.z ?_
 exact ⟨Y.ag, h.length - f, by omega, f, swapL h1 i f, rfl, H, (swapL_perm hil q3).trans hp, hd1.step hil q3 q1 q2 hF.le hall, .inl (by omega), by omega⟩
end Go.Proofs.YthobaaefdehoiaaGreat

/-
 Walk: the priority queue of stops: Push.
-/
set_option linter.all false
namespace Go.Proofs.YthobaaefdehoiaaGreat
open Go Go.W Go.RowKit
abbrev QOwn (A : Option Addr) (cap : Nat) (h : List Ent) (Lo : List Blk) : Prop := OwnS A cap h.length (h.flatMap entCells) 188 4 Lo
def qLv (gq : Nat) (A : Option Addr) (cap : Nat) (h : List Ent) (p : Int) (Lo : List Blk) : List Blk := ⟨gq, 186, qCells A h.length cap p⟩ :: Lo
theorem entCells_one (h : List Ent) : ((h.flatMap entCells).all (·.oneCell')) = true := by
 rw [List.all_eq_true]; intro v hv
 obtain ⟨x, _, hx⟩ := List.mem_flatMap.1 hv
 simp only [entCells, List.mem_cons, List.not_mem_nil, or_false] at hx
 rcases hx with rfl | rfl | rfl | rfl <;> rfl
set_option maxHeartbeats 400000 in
theorem qPush (gq cap : Nat) (A : Option Addr) (p nd ds de : Int) (h : List Ent) (Lo : List Blk) (w0 : World) (S : List Nat) (hO : QOwn A cap h Lo) (hh : HeapOk entLt h) (hl : h.length ≤ 1000000) (hp : 0 ≤ p ∧ p ≤ 1000000000) (H0 : SH w0 S w0 (qLv gq A cap h p Lo)) :
  Calls Tryz.prog 82 #[.pointer (some ⟨gq, 0, none⟩), .agg #[I nd, I ds, I de]] w0 fun e w' => e = .returned (.tuple #[]) ∧ ∃ (A' : Option Addr) (cap' : Nat) (h' : List Ent) (Lo' : List Blk),
   h'.Perm (h ++ [⟨nd, ds, de, p⟩]) ∧ HeapOk entLt h' ∧ QOwn A' cap' h' Lo' ∧ SH w0 S w' (qLv gq A' cap' h' (p + 1) Lo') := by
 have H := H0
 unfold qLv qCells at H
 refine Calls.ofWP Tryz.func82 rfl Tryz.results82 Tryz.ntmps82 rfl <| Y.qr <| Y.bx (cA rfl) H ?_
 clear H; intro g3 w H
 refine Y.z <| Y.q <| Y.qr <| Y.v (Ev.mvP rfl) <| Y.v (Ev.eqlPn Tryz.runUnderlying165 rfl rfl) <| Y.z <| WP.cond_f rfl ?_
 refine Y.k <| Y.q ?_
 have Hf := H
 replace H := H.reidx (L' := [⟨g3, 168, [I nd, I ds, I de]⟩]) [0] (by decide) rfl
 refine WP.rheldC [7, 8, 9, 10, 11, 12, 13, 14, 15, 16, 17, 18, 19, 20, 21] (fun _ w' => ∃ (ga : Nat) (sp : List Value) (cap' : Nat), OwnS (some ⟨ga, 0, none⟩) cap' (h.length + 1) (h.flatMap entCells ++ entCells ⟨nd, ds, de, p⟩) 188 4 [⟨ga, 188, (h.flatMap entCells ++ entCells ⟨nd, ds, de, p⟩) ++ sp⟩] ∧ SH w0 S w' [⟨gq, 186, qCells (some ⟨ga, 0, none⟩) (h.length + 1) cap' p⟩, ⟨ga, 188, (h.flatMap entCells ++ entCells ⟨nd, ds, de, p⟩) ++ sp⟩]) mixed H ?_ ?_
 ·clear H; intro w hbw2 H
  refine Y.t 0 H rfl rfl (fun w H => Ev.mvP rfl) <| Y.t 1 H rfl rfl (fun w H => Ev.mvP rfl) <| Y.t 2 H rfl rfl (fun w H => Ev.nilCheckP rfl) <| Y.t 3 H rfl rfl (fun w H => Y.f rfl rfl) <| Y.t 5 H rfl rfl (fun w H => Y.o H 0 rfl rfl) <| Y.t 6 H rfl rfl (fun w H => Ev.mvP rfl) <| Y.t 7 H rfl rfl (fun w H => Ev.nilCheckP rfl) <| Y.t 8 H rfl rfl (fun w H => Y.f rfl rfl) ?_
  refine Y.A2 4 9 rfl rfl rfl ?_ ?_
  ·try replace Hf := Hf.toBelow hbw2
   refine Y.v (Y.l Hf 1 rfl rfl rfl) <| Y.z <| ⟨(H), ?_⟩
   refine Y.A1 9 rfl rfl ?_
   try replace Hf := Hf.toBelow hbw2
   refine Y.v (Y.l Hf 1 rfl rfl rfl) <| Y.z <| ⟨(H), ?_⟩
   refine Y.t 10 H rfl rfl (fun w H => Ev.build (bld_188_0_1 rfl rfl)) <| Y.A1 11 rfl rfl <| OPS.buildSlice rfl rfl rfl rfl (bsl_184_1_0 rfl) Hf ?_
   clear H Hf; intro g18 w Hf
   have H := Hf.reidx (L' := [⟨g3, 168, [I nd, I ds, I de]⟩]) [1] (by decide) rfl
   refine Y.z <| ⟨(H), ?_⟩
   refine Y.A1 12 rfl rfl <| OPS.append (m := 1) (news := entCells ⟨nd, ds, de, p⟩) (R := [⟨g18, 188, entCells ⟨nd, ds, de, p⟩⟩, ⟨g3, 168, [I nd, I ds, I de]⟩, ⟨gq, 186, qCells A h.length cap p⟩]) rfl rfl rfl rfl rfl (sl_run rfl) rfl rfl hO rfl (src_own Hf 0 rfl) rfl (by omega) (by unfold maxLen; omega) Hf (List.Perm.refl _) ?_
   clear H Hf hO; intro A' cap' Lo w hO Hf
   obtain ⟨ga, sp, rfl, rfl, _, _, hsl⟩ : ∃ g sp, A' = some ⟨g, 0, none⟩ ∧ Lo = [⟨g, 188, (h.flatMap entCells ++ entCells ⟨nd, ds, de, p⟩) ++ sp⟩] ∧ h.length + 1 ≤ cap' ∧ cap' ≤ maxLen ∧ ((h.flatMap entCells ++ entCells ⟨nd, ds, de, p⟩) ++ sp).length = cap' * 4 := by
    rcases hO.form with ⟨_, h, _⟩ | h
    ·omega
    ·exact h
   unfold qCells at Hf
   have H := Hf.reidx (L' := [⟨g3, 168, [I nd, I ds, I de]⟩]) [1] (by decide) rfl
   refine Y.z <| ⟨(H), ?_⟩
   refine Y.t 13 H rfl rfl (fun w H => Ev.nilCheckP rfl) <| Y.t 14 H rfl rfl (fun w H => Y.f rfl rfl) <| Y.A1 15 rfl rfl <| Y.st 2 Hf rfl (cS rfl) rfl ?_
   clear H Hf; intro w Hf
   have H := Hf.reidx (L' := [⟨g3, 168, [I nd, I ds, I de]⟩]) [1] (by decide) rfl
   replace Hf := Hf.reidx (L' := [⟨gq, 186, qCells (some ⟨ga, 0, none⟩) (h.length + 1) cap' p⟩, ⟨ga, 188, (h.flatMap entCells ++ entCells ⟨nd, ds, de, p⟩) ++ sp⟩]) [2, 3] (by decide) rfl
   refine Y.z <| ⟨(H), ?_⟩
   refine Y.dn ?_
   exact ⟨Y.ag, ga, sp, cap', hO, Hf⟩
  ·try replace Hf := Hf.toBelow hbw2
   refine Y.v (Y.l Hf 1 rfl rfl rfl) <| Y.z <| ⟨(H), ?_⟩
   refine Y.t 10 H rfl rfl (fun w H => Ev.build (bld_188_0_1 rfl rfl)) ?_
   refine Y.A2 4 11 rfl rfl rfl ?_ ?_
   ·try replace Hf := Hf.toBelow hbw2
    refine Y.v (Y.l Hf 1 rfl rfl rfl) <| Y.z <| ⟨(H), ?_⟩
    refine Y.A1 11 rfl rfl <| OPS.buildSlice rfl rfl rfl rfl (bsl_184_1_0 rfl) Hf ?_
    clear H Hf; intro g18 w Hf
    have H := Hf.reidx (L' := [⟨g3, 168, [I nd, I ds, I de]⟩]) [1] (by decide) rfl
    refine Y.z <| ⟨(H), ?_⟩
    refine Y.A1 12 rfl rfl <| OPS.append (m := 1) (news := entCells ⟨nd, ds, de, p⟩) (R := [⟨g18, 188, entCells ⟨nd, ds, de, p⟩⟩, ⟨g3, 168, [I nd, I ds, I de]⟩, ⟨gq, 186, qCells A h.length cap p⟩]) rfl rfl rfl rfl rfl (sl_run rfl) rfl rfl hO rfl (src_own Hf 0 rfl) rfl (by omega) (by unfold maxLen; omega) Hf (List.Perm.refl _) ?_
    clear H Hf hO; intro A' cap' Lo w hO Hf
    obtain ⟨ga, sp, rfl, rfl, _, _, hsl⟩ : ∃ g sp, A' = some ⟨g, 0, none⟩ ∧ Lo = [⟨g, 188, (h.flatMap entCells ++ entCells ⟨nd, ds, de, p⟩) ++ sp⟩] ∧ h.length + 1 ≤ cap' ∧ cap' ≤ maxLen ∧ ((h.flatMap entCells ++ entCells ⟨nd, ds, de, p⟩) ++ sp).length = cap' * 4 := by
     rcases hO.form with ⟨_, h, _⟩ | h
     ·omega
     ·exact h
    unfold qCells at Hf
    have H := Hf.reidx (L' := [⟨g3, 168, [I nd, I ds, I de]⟩]) [1] (by decide) rfl
    refine Y.z <| ⟨(H), ?_⟩
    refine Y.t 13 H rfl rfl (fun w H => Ev.nilCheckP rfl) <| Y.t 14 H rfl rfl (fun w H => Y.f rfl rfl) <| Y.A1 15 rfl rfl <| Y.st 2 Hf rfl (cS rfl) rfl ?_
    clear H Hf; intro w Hf
    have H := Hf.reidx (L' := [⟨g3, 168, [I nd, I ds, I de]⟩]) [1] (by decide) rfl
    replace Hf := Hf.reidx (L' := [⟨gq, 186, qCells (some ⟨ga, 0, none⟩) (h.length + 1) cap' p⟩, ⟨ga, 188, (h.flatMap entCells ++ entCells ⟨nd, ds, de, p⟩) ++ sp⟩]) [2, 3] (by decide) rfl
    refine Y.z <| ⟨(H), ?_⟩
    refine Y.dn ?_
    exact ⟨Y.ag, ga, sp, cap', hO, Hf⟩
   ·refine OPS.buildSlice rfl rfl rfl rfl (bsl_184_1_0 rfl) Hf ?_
    clear H Hf; intro g18 w Hf
    have H := Hf.reidx (L' := [⟨g3, 168, [I nd, I ds, I de]⟩]) [1] (by decide) rfl
    refine Y.z <| ⟨(H), ?_⟩
    refine Y.A1 4 rfl rfl ?_
    try replace Hf := Hf.toBelow hbw2
    refine Y.v (Y.l Hf 2 rfl rfl rfl) <| Y.z <| ⟨(H), ?_⟩
    refine Y.A1 12 rfl rfl <| OPS.append (m := 1) (news := entCells ⟨nd, ds, de, p⟩) (R := [⟨g18, 188, entCells ⟨nd, ds, de, p⟩⟩, ⟨g3, 168, [I nd, I ds, I de]⟩, ⟨gq, 186, qCells A h.length cap p⟩]) rfl rfl rfl rfl rfl (sl_run rfl) rfl rfl hO rfl (src_own Hf 0 rfl) rfl (by omega) (by unfold maxLen; omega) Hf (List.Perm.refl _) ?_
    clear H Hf hO; intro A' cap' Lo w hO Hf
    obtain ⟨ga, sp, rfl, rfl, _, _, hsl⟩ : ∃ g sp, A' = some ⟨g, 0, none⟩ ∧ Lo = [⟨g, 188, (h.flatMap entCells ++ entCells ⟨nd, ds, de, p⟩) ++ sp⟩] ∧ h.length + 1 ≤ cap' ∧ cap' ≤ maxLen ∧ ((h.flatMap entCells ++ entCells ⟨nd, ds, de, p⟩) ++ sp).length = cap' * 4 := by
     rcases hO.form with ⟨_, h, _⟩ | h
     ·omega
     ·exact h
    unfold qCells at Hf
    have H := Hf.reidx (L' := [⟨g3, 168, [I nd, I ds, I de]⟩]) [1] (by decide) rfl
    refine Y.z <| ⟨(H), ?_⟩
    refine Y.t 13 H rfl rfl (fun w H => Ev.nilCheckP rfl) <| Y.t 14 H rfl rfl (fun w H => Y.f rfl rfl) <| Y.A1 15 rfl rfl <| Y.st 2 Hf rfl (cS rfl) rfl ?_
    clear H Hf; intro w Hf
    have H := Hf.reidx (L' := [⟨g3, 168, [I nd, I ds, I de]⟩]) [1] (by decide) rfl
    replace Hf := Hf.reidx (L' := [⟨gq, 186, qCells (some ⟨ga, 0, none⟩) (h.length + 1) cap' p⟩, ⟨ga, 188, (h.flatMap entCells ++ entCells ⟨nd, ds, de, p⟩) ++ sp⟩]) [2, 3] (by decide) rfl
    refine Y.z <| ⟨(H), ?_⟩
    refine Y.dn ?_
    exact ⟨Y.ag, ga, sp, cap', hO, Hf⟩
 clear H
 rintro u w ⟨ga, sp, cap', hO, H⟩
 have e1 : (h ++ [(⟨nd, ds, de, p⟩ : Ent)]).flatMap entCells = h.flatMap entCells ++ entCells ⟨nd, ds, de, p⟩ := by simp
 have e2 : (h ++ [(⟨nd, ds, de, p⟩ : Ent)]).length = h.length + 1 := by simp
 rw [← e1, ← e2] at H hO
 have hup := UpOk.start hh (⟨nd, ds, de, p⟩ : Ent)
 unfold qCells at H
 refine Y.qr <| Y.v (Ev.mvP rfl) <| Y.v (Ev.nilCheckP rfl) <| Y.fa rfl rfl <| Y.j H 0 rfl rfl rfl <| Y.v (Y.p rfl rfl) <| Y.v (Ev.nilCheckP rfl) <| Y.fa rfl rfl <| Y.ss 0 H rfl (cI rfl) rfl ?_
 clear H; intro w H
 refine Y.z <| Y.qr <| Y.v (Ev.mvP rfl) <| Y.v (Ev.nilCheckP rfl) <| Y.fa rfl rfl <| Y.j H 0 rfl rfl rfl <| Y.v (Y.n rfl) <| Y.v (Y.s rfl rfl) <| Y.b rfl <| Y.z <| WP.block <| WP.loop [4, 35, 36, 37, 38, 39, 40, 41, 42, 43, 44, 45, 46, 47, 48, 49, 50, 51, 52, 53] (fun g e w' => ∃ (i : Nat) (h1 : List Ent), i = g ∧ e 4 = I i ∧ SH w0 S w' (qBlks gq ga h1 cap' (p + 1) sp) ∧ h1.Perm (h ++ [⟨nd, ds, de, p⟩]) ∧ UpOk entLt h1 i) (h.length) (⟨h.length, h ++ [(⟨nd, ds, de, p⟩ : Ent)], rfl, by rw [show (((h ++ [(⟨nd, ds, de, p⟩ : Ent)]).length : Nat) : Int) - 1 = (h.length : Nat) from by rw [e2]; omega]; rfl, H, List.Perm.refl _, hup⟩) ?_
 clear H
 rintro g u w ⟨i, h1, rfl, h4, H, hpm, hu⟩
 refine WP.know (t := 4) h4 ?_
 have hlen := hpm.length_eq
 have hil := hu.lt'
 unfold qBlks qCells at H
 refine Y.q <| Y.q ?_
 skip
 refine Y.r <| Y.a rfl <| Y.v (Ev.gtr rfl rfl) <| Y.v (Ev.mvB rfl) <| Y.g rfl rfl (fun hg => Ev.mvP rfl) <| Y.g rfl rfl (fun hg => Y.m rfl) <| Y.g rfl rfl (fun hg => Y.m rfl) <| Y.g rfl rfl (fun hg => Ev.sub (gvE hg rfl) rfl (by unfold fits; omega)) <| Y.g rfl rfl (fun hg => Ev.quo (gvE hg rfl) rfl (by simp at hg; omega) (by omega) (by omega)) <| OPS.gcall (f := 95) (args := [.pointer (some ⟨gq, 0, none⟩), I i, I (((i : Int) - 1) / 2)]) (v := .bool (entLt (h1.getD i default) (h1.getD ((i - 1) / 2) default))) rfl rfl rfl rfl rfl (fun hg => EvC.conv (EvC.func (fun_run rfl)) (l3 (gvE hg rfl) (gvE hg rfl) (gvE hg rfl))) (fun hg => qBeforeI gq ga cap' i ((i - 1) / 2) _ _ (p + 1) h1 sp w0 w S _ rfl (by simp at hg; omega) H rfl rfl hil (by omega)) ?_
 intro w hbc; replace H := H.toBelow hbc; clear hbc
 refine Y.v (Ev.pickAnd rfl rfl rfl) <| Y.z ?_
 refine WP.cond rfl (fun hc5 => ?_) (fun hc5 => ?_)
 ·rw [Bool.and_eq_true, decide_eq_true_eq] at hc5
  have hi0 : 0 < i := by omega
  refine Y.k <| Y.q <| WP.block <| Y.r <| Y.v (Ev.mvP rfl) <| Y.a rfl <| Y.a rfl <| Y.v (Y.s rfl rfl) <| Y.v (Ev.quo rfl rfl (by omega) (by omega) (by omega)) <| OPS.call (d := some 53) rfl rfl rfl (EvC.func (fun_run rfl)) (qSwapI gq ga cap' i ((i - 1) / 2) _ _ (p + 1) h1 sp w0 w S rfl (by omega) H hil (by omega)) ?_
  rintro _ w ⟨rfl, H2⟩
  refine ⟨_, rfl, ?_⟩
  replace H := H2; clear H2
  refine Y.z <| Y.r <| Y.a rfl <| Y.v (Y.s rfl rfl) <| Y.v (Ev.quo rfl rfl (by omega) (by omega) (by omega)) <| Y.b rfl <| Y.z ?_
  exact ⟨Y.ag, (i - 1) / 2, by omega, (i - 1) / 2, swapL h1 i ((i - 1) / 2), rfl, by rw [show (((i - 1) / 2 : Nat) : Int) = ((i : Int) - 1) / 2 from by omega]; rfl, H, (swapL_perm hil (by omega)).trans hpm, hu.step entLtOk hi0 hc5.2⟩
 refine WP.exit <| XB.hit <| ⟨_, rfl, ?_⟩
 have hfin : HeapOk entLt h1 := hu.done (by
  rcases Nat.eq_zero_or_pos i with h0 | h0
  ·exact .inl h0
  ·refine .inr ?_
   have q : decide ((0 : Int) < i) = true := by simp; omega
   rw [q, Bool.true_and] at hc5
   exact hc5)
 have e3 : (h1.flatMap entCells).length = ((h ++ [(⟨nd, ds, de, p⟩ : Ent)]).flatMap entCells).length := by rw [rows_length entCells_len, rows_length entCells_len, hlen]
 have hO2 : QOwn (some ⟨ga, 0, none⟩) cap' h1 [⟨ga, 188, h1.flatMap entCells ++ sp⟩] := by
  refine ⟨rows_length entCells_len h1, .inr ⟨ga, sp, rfl, rfl, ?_⟩⟩
  rcases hO.form with ⟨_, q, _⟩ | ⟨g', sp', q1, q2, q3, q4, q5⟩
  ·rw [e2] at q; omega
  ·have q6 : sp' = sp := by
    simp only [List.cons.injEq, Blk.mk.injEq, and_true, true_and] at q2
    exact (List.append_cancel_left q2.2).symm
   subst q6
   refine ⟨by rw [hlen]; exact q3, q4, ?_⟩
   rw [List.length_append] at q5 ⊢
   rw [e3]; exact q5
 exact ⟨rfl, _, cap', h1, _, hpm, hfin, hO2, H⟩
end Go.Proofs.YthobaaefdehoiaaGreat

/-
 Walk: the priority queue of stops: Pop.
-/
set_option linter.all false
namespace Go.Proofs.YthobaaefdehoiaaGreat
open Go Go.W Go.RowKit
theorem qRows {A : Option Addr} {cap gq : Nat} {p : Int} {h : List Ent} {Lo : List Blk} {w0 w : World} {S : List Nat} (hO : QOwn A cap h Lo) (H : SH w0 S w (qLv gq A cap h p Lo)) : RowsAt 4 entCells w A h := by
 rcases hO.form with ⟨_, q, _, _⟩ | ⟨g, sp, rfl, rfl, _⟩
 ·rw [List.length_eq_zero_iff.1 q]; exact RowsAt.nil
 ·exact rowsOwn entCells_len H 1 rfl
theorem popL_set (h : List Ent) (z : Ent) (hl : 0 < h.length) : (swapL h 0 (h.length - 1)).set (h.length - 1) z = popL h ++ [z] := by
 have e : (swapL h 0 (h.length - 1)).length = h.length := swapL_length ..
 rw [List.set_eq_take_append_cons_drop, if_pos (by omega), List.drop_eq_nil_of_le (by omega)]; rfl
def popV (x : Ent) (b : Bool) : Value := .tuple #[labV x, .bool b]
set_option maxHeartbeats 400000 in
theorem qPop (gq cap : Nat) (A : Option Addr) (p : Int) (h : List Ent) (Lo : List Blk) (w0 : World) (S : List Nat) (hO : QOwn A cap h Lo) (hh : HeapOk entLt h) (hl : h.length ≤ 1000000) (H0 : SH w0 S w0 (qLv gq A cap h p Lo)) :
  Calls Tryz.prog 83 #[.pointer (some ⟨gq, 0, none⟩)] w0 fun e w' =>
   (h = [] ∧ e = .returned (popV ⟨0, 0, 0, 0⟩ false) ∧ SH w0 S w' (qLv gq A cap h p Lo)) ∨
   ∃ (x : Ent) (t h' : List Ent) (Lo' : List Blk), h = x :: t ∧ e = .returned (popV x true) ∧ (x :: h').Perm h ∧ HeapOk entLt h' ∧ QOwn A cap h' Lo' ∧ SH w0 S w' (qLv gq A cap h' p Lo') := by
 have H := H0
 have hrow : ∀ w, SH w0 S w (qLv gq A cap h p Lo) → RowsAt 4 entCells w A h := fun w H => qRows hO H
 refine Calls.ofWPc Tryz.func83 rfl Tryz.results83 Tryz.ntmps83 rfl <| Y.qr <| Y.al H rfl rfl ?_
 clear H; intro g2 w H
 refine Y.v (Ev.asB rfl) <| Y.z <| Y.q ?_
 have Hq := H.reidx (L' := [⟨gq, 186, qCells A h.length cap p⟩]) [1] (by decide) rfl
 have hr1 := hrow w (Y.d1 H)
 have hq1 : cellsAt w gq 0 (qCells A h.length cap p) := cellsAt_own H 1 rfl _ 0 fun j hj => by rw [Nat.zero_add]; exact List.getElem?_eq_getElem hj
 clear Hq
 refine Y.r <| Y.v (Ev.mvP rfl) <| OPS.call (d := some 9) rfl rfl rfl (EvC.func (fun_run rfl)) (qPeek gq cap A p h _ hq1 hr1) ?_
 rintro _ w ⟨rfl, hb⟩
 refine ⟨_, rfl, ?_⟩
 replace H := H.toBelow hb; clear hb
 refine Y.v (Ev.mvT rfl) <| Y.v (Ev.extract rfl rfl) <| Y.v (Ev.extract rfl rfl) <| Y.al H rfl rfl ?_
 clear H; intro g4 w H
 refine Y.ss 0 H rfl (cA rfl) rfl ?_
 clear H; intro w H
 refine Y.v (Ev.asB rfl) <| Y.z <| Y.q <| Y.qr <| Y.v (Ev.mvB rfl) <| Y.v (Ev.not rfl) <| Y.z ?_
 refine WP.cond rfl (fun hc2 => ?_) (fun hc2 => ?_)
 ·have h0 : h = [] := by cases h with | nil => rfl | cons x t => simp at hc2
  subst h0
  refine Y.qr <| Y.v (Y.o H 0 rfl rfl) <| Y.ss 1 H rfl (cA rfl) rfl ?_
  clear H; intro w H
  refine Y.v (Ev.asB rfl) <| Y.z ?_
  refine WP.ret ⟨[_, _], ⟨(by exact resCellA 1 H rfl (agg_run rfl) (size_run rfl) (by rfl) rfl), rfl, trivial⟩, ?_⟩
  exact .inl ⟨rfl, rfl, H.drop ((List.sublist_cons_self _ _).trans (List.sublist_cons_self _ _))⟩
 obtain ⟨x, t, rfl⟩ : ∃ x t, h = x :: t := by cases h with | nil => simp at hc2 | cons x t => exact ⟨x, t, rfl⟩
 obtain ⟨ga, sp, rfl, rfl, hcap, hmx, hsl⟩ : ∃ g sp, A = some ⟨g, 0, none⟩ ∧ Lo = [⟨g, 188, (x :: t).flatMap entCells ++ sp⟩] ∧ (x :: t).length ≤ cap ∧ cap ≤ maxLen ∧ ((x :: t).flatMap entCells ++ sp).length = cap * 4 := by
  rcases hO.form with ⟨_, h, _⟩ | h
  ·simp at h
  ·exact h
 simp only [List.length_cons] at hcap hl
 have hlc : (x :: t).length = t.length + 1 := rfl
 unfold qLv qCells at H
 refine Y.k <| Y.qr <| Y.v (Ev.mvP rfl) <| Y.v (Ev.nilCheckP rfl) <| Y.fa rfl rfl <| Y.j H 2 rfl rfl rfl <| Y.v (Y.n rfl) <| Y.v (Y.s rfl rfl) <| Y.b rfl <| Y.z <| Y.qr <| Y.v (Ev.mvP rfl) <| Y.a rfl <| OPS.call (d := some 23) rfl rfl rfl (EvC.func (fun_run rfl)) (qSwapI gq ga cap 0 t.length _ _ p (x :: t) sp w w (qBlks gq ga (x :: t) cap p sp |>.map (·.g)) rfl (by simp only [List.length_cons]; omega) (SH.restart H (Lv := qBlks gq ga (x :: t) cap p sp) ((List.sublist_cons_self _ _).trans (List.sublist_cons_self _ _))) (by simp) (by simp)) ?_
 rintro _ w ⟨rfl, H2⟩
 refine ⟨_, rfl, ?_⟩
 replace H := SH.call (Lv := qBlks gq ga (x :: t) cap p sp) (L1 := [_, _]) H H2
 clear H2
 unfold qBlks qCells at H
 rw [swapL_length] at H
 refine Y.z <| Y.qr <| Y.v (Ev.mvP rfl) <| Y.v (Ev.nilCheckP rfl) <| Y.fa rfl rfl <| Y.j H 2 rfl rfl rfl <| Y.a rfl <| Y.v (Ev.sliceFrom2 (j := t.length) (el_run rfl) (size_run rfl) rfl rfl (by simp only [List.length_cons]; omega) (by simp) (by omega)) <| OPS.clear 3 _ rfl rfl rfl (zs := entCells ⟨0, 0, 0, 0⟩) (el_run rfl) (zero_run rfl) rfl (by decide) rfl rfl (by simp) H rfl (by simp only [List.length_append, rows_length entCells_len, swapL_length, hlc, entCells_len]; omega) ?_
 clear H; intro w H
 simp only [List.set_cons_zero, List.set_cons_succ] at H
 rw [show (x :: t).length - t.length = 1 from by rw [hlc]; omega, show mkL 1 (entCells ⟨0, 0, 0, 0⟩) = entCells ⟨0, 0, 0, 0⟩ from rfl, putL_ents _ _ _ _ (by rw [swapL_length, hlc]; omega),
  show (swapL (x :: t) 0 t.length).set t.length ⟨0, 0, 0, 0⟩ = popL (x :: t) ++ [⟨0, 0, 0, 0⟩] from popL_set (x :: t) _ (by simp), List.flatMap_append, List.append_assoc] at H
 refine Y.z <| Y.qr <| Y.v (Ev.mvP rfl) <| Y.v (Ev.mvP rfl) <| Y.v (Ev.nilCheckP rfl) <| Y.fa rfl rfl <| Y.j H 2 rfl rfl rfl <| Y.a rfl <| Y.v (Ev.sliceTo (j := t.length) (el_run rfl) ⟨4, size_run rfl⟩ rfl rfl (by simp only [List.length_cons]; omega) (by omega)) <| Y.v (Ev.nilCheckP rfl) <| Y.fa rfl rfl <| Y.ss 2 H rfl (cS rfl) rfl ?_
 clear H; intro w H
 refine Y.z <| Y.qr <| Y.v (Ev.mvP rfl) <| OPS.call (d := some 40) rfl rfl rfl (EvC.func (fun_run rfl)) (qSink gq ga cap p (popL (x :: t)) ([⟨0, 0, 0, 0⟩].flatMap entCells ++ sp) w (qBlks gq ga (popL (x :: t)) cap p ([⟨0, 0, 0, 0⟩].flatMap entCells ++ sp) |>.map (·.g)) (DownOk.start hh) (by rw [popL_length, hlc]; omega) (SH.restart H (Lv := qBlks gq ga (popL (x :: t)) cap p ([⟨0, 0, 0, 0⟩].flatMap entCells ++ sp)) (by unfold qBlks qCells; rw [popL_length]; exact ((List.sublist_cons_self _ _).trans (List.sublist_cons_self _ _))))) ?_
 rintro _ w ⟨rfl, h', hp', hh', H2⟩
 refine ⟨_, rfl, ?_⟩
 replace H := SH.call (Lv := qBlks gq ga (popL (x :: t)) cap p ([⟨0, 0, 0, 0⟩].flatMap entCells ++ sp)) (L1 := [⟨g4, 168, labCells x⟩, ⟨g2, 168, [I 0, I 0, I 0]⟩]) (by unfold qBlks qCells; rw [popL_length]; exact H) H2
 clear H2
 have hlen' : h'.length = t.length := by rw [hp'.length_eq, popL_length]; rfl
 unfold qBlks labCells at H
 refine Y.z <| Y.qr <| Y.v (Y.o H 0 rfl rfl) <| Y.ss 1 H rfl (cA rfl) rfl ?_
 clear H; intro w H
 refine Y.v (Ev.asB rfl) <| Y.z ?_
 refine WP.ret ⟨[_, _], ⟨(by exact resCellA 1 H rfl (agg_run rfl) (size_run rfl) (by rfl) rfl), rfl, trivial⟩, ?_⟩
 refine .inr ⟨x, t, h', [⟨ga, 188, h'.flatMap entCells ++ ([⟨0, 0, 0, 0⟩].flatMap entCells ++ sp)⟩], rfl, rfl, (List.Perm.cons x hp').trans popL_perm, hh', ⟨rows_length entCells_len h', .inr ⟨ga, _, rfl, rfl, by omega, hmx, ?_⟩⟩, H.drop ((List.sublist_cons_self _ _).trans (List.sublist_cons_self _ _))⟩
 rw [← hsl]
 simp only [List.length_append, rows_length entCells_len, hlen', hlc, List.length_cons, List.length_nil]
 omega
theorem qPop2 (gq cap : Nat) (A : Option Addr) (p : Int) (h : List Ent) (Lo : List Blk) (w0 : World) (S : List Nat) (hO : QOwn A cap h Lo) (hh : HeapOk entLt h) (hl : h.length ≤ 1000000) (H0 : SH w0 S w0 (qLv gq A cap h p Lo)) :
  Calls Tryz.prog 83 #[.pointer (some ⟨gq, 0, none⟩)] w0 fun e w' =>
   ∃ (x : Ent) (b : Bool) (h' : List Ent) (Lo' : List Blk), e = .returned (popV x b) ∧ (b = false → h = [] ∧ h' = []) ∧ (b = true → (x :: h').Perm h ∧ ∀ z ∈ h, legLt z.secs z.edges x.secs x.edges = false) ∧ HeapOk entLt h' ∧ QOwn A cap h' Lo' ∧ SH w0 S w' (qLv gq A cap h' p Lo') := by
 refine (qPop gq cap A p h Lo w0 S hO hh hl H0).mono fun e w' hr => ?_
 rcases hr with ⟨rfl, he, H⟩ | ⟨x, t, h', Lo', rfl, he, hp, hh', hO', H⟩
 ·exact ⟨⟨0, 0, 0, 0⟩, false, [], Lo, he, fun _ => ⟨rfl, rfl⟩, (fun h => by cases h), hh, hO, H⟩
 ·refine ⟨x, true, h', Lo', he, (fun h => by cases h), fun _ => ⟨hp, fun z hz => ?_⟩, hh', hO', H⟩
  have := hh.root_le entLtOk z hz
  unfold entLt at this
  simp only [Bool.or_eq_false_iff] at this
  exact this.1
end Go.Proofs.YthobaaefdehoiaaGreat

/-
  Plain: the search of spread.
-/
set_option linter.all false
namespace Go.Proofs.YthobaaefdehoiaaGreat
open Go Go.W
structure Leg where
  secs : Int
  edges : Int
instance : Inhabited Leg := ⟨⟨0, 0⟩⟩
def legCells (x : Leg) : List Value := [I x.secs, I x.edges]
theorem legCells_len (x : Leg) : (legCells x).length = 2 := rfl
def fnd (found : List Bool) (v : Nat) : Bool := found.getD v false
def bst (best : List Leg) (v : Nat) : Int := (best.getD v default).secs
structure SpI (l : List Edg) (n s : Nat) (K : Nat → Bool) (D : Nat → Int) (x : Nat) (Pr : Nat → Prop) (found : List Bool) (best : List Leg) (h : List Ent) : Prop where
  flen : found.length = n
  blen : best.length = n
  ent : ∀ y ∈ h, (∃ v : Nat, v < n ∧ y.node = v ∧ K v = true ∧ D v ≤ y.secs) ∧ (0 ≤ y.edges ∧ y.edges ≤ (n : Int) - openN found) ∧ y.secs ≤ 1000 * y.edges
  fin : ∀ v, v < n → fnd found v = true → K v = true ∧ bst best v = D v
  pend : ∀ i u v w, EdgeAt l i u v w → u < n → v < n → fnd found u = true → (u ≠ x ∨ Pr i) → fnd found v = true ∨ ∃ y ∈ h, y.node = v ∧ y.secs ≤ D u + w
  src : fnd found s = true ∨ ∃ y ∈ h, y.node = s ∧ y.secs ≤ 0
section
variable {l : List Edg} {n s x : Nat} {K : Nat → Bool} {D : Nat → Int} {Pr : Nat → Prop} {found : List Bool} {best : List Leg} {h : List Ent}
theorem openN_len : ∀ l : List Bool, openN l ≤ l.length := fun l => by unfold openN; exact List.length_filter_le _ _
theorem fnd_set {b v : Nat} {y : Bool} (hb : b < found.length) : fnd (found.set b y) v = if b = v then y else fnd found v := by
  unfold fnd
  by_cases h : b = v
  · subst h; simp [hb]
  · simp [h, List.getElem?_set]
theorem bst_set {b v : Nat} {y : Leg} (hb : b < best.length) : bst (best.set b y) v = if b = v then y.secs else bst best v := by
  unfold bst
  by_cases h : b = v
  · subst h; simp [hb]
  · simp [h, List.getElem?_set]
theorem SpI.mono (hI : SpI l n s K D x Pr found best h) {Pr' : Nat → Prop} (hp : ∀ i, i < l.length → Pr' i → Pr i) : SpI l n s K D x Pr' found best h :=
  { hI with pend := fun i u v w hE hu hv hf hx => hI.pend i u v w hE hu hv hf (hx.imp id (hp i hE.1)) }
theorem SpI.init (hR : RD l n s K D) (hs : s < n) : SpI l n s K D x Pr (List.replicate n false) (List.replicate n default) [⟨s, 0, 0, 0⟩] := by
  have hf : ∀ v, fnd (List.replicate n false) v = false := fun v => by by_cases hv : v < n <;> simp [fnd, hv]
  refine ⟨by simp, by simp, fun y hy => ?_, fun v _ h1 => (by rw [hf] at h1; cases h1), fun i u v w _ _ _ h1 => (by rw [hf] at h1; cases h1), .inr ⟨_, List.mem_cons_self .., rfl, Int.le_refl _⟩⟩
  simp only [List.mem_cons, List.not_mem_nil, or_false] at hy
  subst hy
  refine ⟨⟨s, hs, rfl, hR.src.1, by rw [hR.src.2]; exact Int.le_refl _⟩, ⟨Int.le_refl _, ?_⟩, by simp⟩
  have : openN (List.replicate n false) = n := by simp [openN]
  show (0 : Int) ≤ (n : Int) - openN (List.replicate n false)
  omega
theorem SpI.waits (hI : SpI l n s K D x (fun _ => True) found best h) (hok : RoadOk n l) (hR : RD l n s K D) : ∀ v, v < n → K v = true → fnd found v = false → ∃ y ∈ h, y.secs ≤ D v := by
  have key : ∀ (m : Nat) (v : Nat), v < n → K v = true → fnd found v = false → D v ≤ m → ∃ y ∈ h, y.secs ≤ D v := by
    intro m
    induction m with
    | zero =>
      intro v hv hk hf hm
      by_cases hvs : v = s
      · subst hvs
        rcases hI.src with q | ⟨y, hy, _, q⟩
        · rw [hf] at q; cases q
        · exact ⟨y, hy, by rw [hR.src.2]; exact q⟩
      · obtain ⟨u, i, w, hu, hku, hE, hd⟩ := hR.par v hv hk hvs
        have := hR.nn u hu hku
        have := hE.pos hok
        omega
    | succ m ih =>
      intro v hv hk hf hm
      by_cases hvs : v = s
      · subst hvs
        rcases hI.src with q | ⟨y, hy, _, q⟩
        · rw [hf] at q; cases q
        · exact ⟨y, hy, by rw [hR.src.2]; exact q⟩
      · obtain ⟨u, i, w, hu, hku, hE, hd⟩ := hR.par v hv hk hvs
        have hp := hE.pos hok
        cases hfu : fnd found u with
        | true =>
          rcases hI.pend i u v w hE hu hv hfu (.inr trivial) with q | ⟨y, hy, _, q⟩
          · rw [hf] at q; cases q
          · exact ⟨y, hy, by omega⟩
        | false =>
          obtain ⟨y, hy, q⟩ := ih u hu hku hfu (by omega)
          exact ⟨y, hy, by omega⟩
  intro v hv hk hf
  exact key (D v).toNat v hv hk hf (by omega)
theorem SpI.stale (hI : SpI l n s K D x (fun _ => True) found best h) {y : Ent} {h' : List Ent} (hp : (y :: h').Perm h) {v : Nat} (hy : y.node = v) (hv : fnd found v = true) : SpI l n s K D x (fun _ => True) found best h' :=
  { hI with
    ent := fun z hz => hI.ent z (hp.subset (List.mem_cons_of_mem _ hz))
    pend := fun i u b w hE hu hb hf hx => by
      rcases hI.pend i u b w hE hu hb hf hx with q | ⟨z, hz, q1, q2⟩
      · exact .inl q
      · rcases List.mem_cons.1 (hp.symm.subset hz) with rfl | hz
        · have : b = v := by omega
          subst this; exact .inl hv
        · exact .inr ⟨z, hz, q1, q2⟩
    src := by
      rcases hI.src with q | ⟨z, hz, q1, q2⟩
      · exact .inl q
      · rcases List.mem_cons.1 (hp.symm.subset hz) with rfl | hz
        · have : s = v := by omega
          subst this; exact .inl hv
        · exact .inr ⟨z, hz, q1, q2⟩ }
theorem SpI.fresh (hI : SpI l n s K D x (fun _ => True) found best h) (hok : RoadOk n l) (hR : RD l n s K D) {y : Ent} {h' : List Ent} (hp : (y :: h').Perm h) (hmin : ∀ z ∈ h, legLt z.secs z.edges y.secs y.edges = false) {v : Nat} (hy : y.node = v) (hv : v < n) (hf : fnd found v = false) :
    K v = true ∧ y.secs = D v ∧ (0 ≤ y.edges ∧ y.edges < (n : Int) - openN (found.set v true)) ∧ y.secs ≤ 1000 * y.edges ∧ SpI l n s K D v (fun _ => False) (found.set v true) (best.set v ⟨y.secs, y.edges⟩) h' := by
  have hmem : y ∈ h := hp.subset (List.mem_cons_self ..)
  obtain ⟨⟨v', _, e1, hk, hle⟩, he, hs1⟩ := hI.ent y hmem
  obtain rfl : v' = v := by omega
  obtain ⟨z, hz, hzs⟩ := hI.waits hok hR v' hv hk hf
  have h1 := hmin z hz
  unfold legLt at h1
  simp only [Bool.or_eq_false_iff, decide_eq_false_iff_not] at h1
  have hyd : y.secs = D v' := by omega
  have hvf : v' < found.length := by rw [hI.flen]; exact hv
  have hvb : v' < best.length := by rw [hI.blen]; exact hv
  have ho := openN_set found v' hvf hf
  have f1 : ∀ u, fnd (found.set v' true) u = true → u ≠ v' → fnd found u = true := fun u hu hne => by rw [fnd_set hvf, if_neg (Ne.symm hne)] at hu; exact hu
  have f2 : ∀ u, fnd found u = true → fnd (found.set v' true) u = true := fun u hu => by rw [fnd_set hvf]; split; rfl; exact hu
  have f3 : fnd (found.set v' true) v' = true := by rw [fnd_set hvf, if_pos rfl]
  refine ⟨hk, hyd, ⟨he.1, by omega⟩, hs1, ⟨by simp [hI.flen], by simp [hI.blen], fun z hz => ?_, fun u hu h2 => ?_, fun i u b w hE hu hb hfu hx => ?_, ?_⟩⟩
  · obtain ⟨q1, q2, q3⟩ := hI.ent z (hp.subset (List.mem_cons_of_mem _ hz))
    exact ⟨q1, ⟨q2.1, by omega⟩, q3⟩
  · rw [bst_set hvb]
    by_cases hu2 : u = v'
    · subst hu2; rw [if_pos rfl]; exact ⟨hk, hyd⟩
    · rw [if_neg (Ne.symm hu2)]; exact hI.fin u hu (f1 u h2 hu2)
  · have hux : u ≠ v' := by rcases hx with q | q; exact q; exact q.elim
    rcases hI.pend i u b w hE hu hb (f1 u hfu hux) (.inr trivial) with q | ⟨z, hz, q1, q2⟩
    · exact .inl (f2 b q)
    · rcases List.mem_cons.1 (hp.symm.subset hz) with rfl | hz
      · have : b = v' := by omega
        subst this; exact .inl f3
      · exact .inr ⟨z, hz, q1, q2⟩
  · rcases hI.src with q | ⟨z, hz, q1, q2⟩
    · exact .inl (f2 s q)
    · rcases List.mem_cons.1 (hp.symm.subset hz) with rfl | hz
      · have : s = v' := by omega
        subst this; exact .inl f3
      · exact .inr ⟨z, hz, q1, q2⟩
theorem SpI.push (hI : SpI l n s K D x Pr found best h) (hok : RoadOk n l) (hR : RD l n s K D) {i b : Nat} {w d e p : Int} {h' : List Ent} (hE : EdgeAt l i x b w) (hx : x < n) (hfx : fnd found x = true) (hb : b < n) (hd : d = D x) (he : 0 ≤ e ∧ e < (n : Int) - openN found) (hde : d ≤ 1000 * e) (hp : h'.Perm (h ++ [⟨b, d + w, e + 1, p⟩])) :
    SpI l n s K D x (fun j => Pr j ∨ j = i) found best h' := by
  have hw := hE.pos hok
  have hkx := (hI.fin x hx hfx).1
  have hcl := hR.clo i x b w hE hx hb hkx
  refine ⟨hI.flen, hI.blen, fun y hy => ?_, hI.fin, fun j u v w' hE' hu hv hf hor => ?_, ?_⟩
  · rcases List.mem_append.1 (hp.subset hy) with hy | hy
    · exact hI.ent y hy
    · simp only [List.mem_cons, List.not_mem_nil, or_false] at hy
      subst hy
      exact ⟨⟨b, hb, rfl, hcl.1, by show D b ≤ d + w; omega⟩, ⟨by show 0 ≤ e + 1; omega, by show e + 1 ≤ _; omega⟩, by show d + w ≤ 1000 * (e + 1); omega⟩
  · have old : (u ≠ x ∨ Pr j) → fnd found v = true ∨ ∃ y ∈ h', y.node = v ∧ y.secs ≤ D u + w' := fun q => by
      rcases hI.pend j u v w' hE' hu hv hf q with q | ⟨y, hy, q1, q2⟩
      · exact .inl q
      · exact .inr ⟨y, hp.symm.subset (List.mem_append_left _ hy), q1, q2⟩
    rcases hor with q | q | q
    · exact old (.inl q)
    · exact old (.inr q)
    · subst q
      obtain ⟨_, a1, a2, a3⟩ := hE
      obtain ⟨_, b1, b2, b3⟩ := hE'
      refine .inr ⟨_, hp.symm.subset (List.mem_append_right _ (List.mem_cons_self ..)), ?_, ?_⟩
      · show (b : Int) = v; omega
      · show d + w ≤ D u + w'
        have : u = x := by omega
        subst this; omega
  · rcases hI.src with q | ⟨y, hy, q1, q2⟩
    · exact .inl q
    · exact .inr ⟨y, hp.symm.subset (List.mem_append_left _ hy), q1, q2⟩
theorem SpI.pass (hI : SpI l n s K D x Pr found best h) {i : Nat} (hno : ∀ b w, EdgeAt l i x b w → fnd found b = true) : SpI l n s K D x (fun j => Pr j ∨ j = i) found best h :=
  { hI with pend := fun j u v w hE hu hv hf hor => by
                    rcases hor with q | q | q
                    · exact hI.pend j u v w hE hu hv hf (.inl q)
                    · exact hI.pend j u v w hE hu hv hf (.inr q)
                    · by_cases hux : u = x
                      · subst hux; subst q; exact .inl (hno v w hE)
                      · exact hI.pend j u v w hE hu hv hf (.inl hux) }
theorem SpI.done (hI : SpI l n s K D x (fun _ => True) found best []) (hok : RoadOk n l) (hR : RD l n s K D) : ∀ v, v < n → fnd found v = K v ∧ (K v = true → bst best v = D v) := fun v hv => by
  cases hk : K v with
  | true =>
    cases hf : fnd found v with
    | true => exact ⟨rfl, fun _ => (hI.fin v hv hf).2⟩
    | false => obtain ⟨y, hy, _⟩ := hI.waits hok hR v hv hk hf; cases hy
  | false =>
    cases hf : fnd found v with
    | true => have := (hI.fin v hv hf).1; rw [hk] at this; cases this
    | false => exact ⟨rfl, fun q => by cases q⟩
end
end Go.Proofs.YthobaaefdehoiaaGreat

/-
  Plain: rounds of relaxation on a road.
-/
set_option linter.all false
namespace Go.Proofs.YthobaaefdehoiaaGreat
open Go Go.W
def rkOf (n : Nat) (K : Nat → Bool) (D : Nat → Int) (v : Nat) : Nat := (List.range n).countP fun x => K x && decide (D x < D v)
theorem rkOf_le (n : Nat) (K : Nat → Bool) (D : Nat → Int) (v : Nat) : rkOf n K D v ≤ n := by
  have h : rkOf n K D v ≤ (List.range n).length := List.countP_le_length
  simpa using h
theorem countP_lt {α : Type} {p q : α → Bool} : ∀ {l : List α} {x : α}, x ∈ l → (∀ y ∈ l, p y = true → q y = true) → p x = false → q x = true → l.countP p < l.countP q
  | [], _, h, _, _, _ => by cases h
  | a :: l, x, h, hpq, hp, hq => by
    have hle : l.countP p ≤ l.countP q := by
      clear h
      have hpq' : ∀ y ∈ l, p y = true → q y = true := fun y hy => hpq y (List.mem_cons_of_mem _ hy)
      clear hpq
      induction l with
      | nil => simp
      | cons b l ih =>
        have h1 := ih fun y hy => hpq' y (List.mem_cons_of_mem _ hy)
        have h2 := hpq' b (List.mem_cons_self ..)
        rw [List.countP_cons, List.countP_cons]
        cases hb : p b with
        | true => rw [h2 hb]; simp; exact h1
        | false => simp; omega
    rw [List.countP_cons, List.countP_cons]
    rcases List.mem_cons.1 h with rfl | h
    · rw [hp, hq]; simp; omega
    · have h1 := countP_lt h (fun y hy => hpq y (List.mem_cons_of_mem _ hy)) hp hq
      have h2 := hpq a (List.mem_cons_self ..)
      cases ha : p a with
      | true => rw [h2 ha]; simp; exact h1
      | false => simp; omega
theorem rkOf_lt {n : Nat} {K : Nat → Bool} {D : Nat → Int} {u v : Nat} (hu : u < n) (hk : K u = true) (h : D u < D v) : rkOf n K D u < rkOf n K D v := by
  refine countP_lt (x := u) (by simpa using hu) (fun y _ hy => ?_) (by simp) (by simp [hk, h])
  simp only [Bool.and_eq_true, decide_eq_true_eq] at hy ⊢
  exact ⟨hy.1, by omega⟩
section
variable {l : List Edg} {n s : Nat} {K : Nat → Bool} {D : Nat → Int} {r : Nat} {Pr : Nat → Prop} {d ed : List Int} {c : Int}
theorem RD.bd (hR : RD l n s K D) (hok : RoadOk n l) : ∀ v, v < n → K v = true → D v ≤ 1000 * rkOf n K D v := by
  have key : ∀ (m v : Nat), v < n → K v = true → rkOf n K D v ≤ m → D v ≤ 1000 * rkOf n K D v := by
    intro m
    induction m with
    | zero =>
      intro v hv hk hm
      by_cases hvs : v = s
      · subst hvs; rw [hR.src.2]; omega
      · obtain ⟨u, i, w, hu, hku, hE, hd⟩ := hR.par v hv hk hvs
        have := hE.pos hok
        have := rkOf_lt (D := D) (v := v) hu hku (by omega)
        omega
    | succ m ih =>
      intro v hv hk hm
      by_cases hvs : v = s
      · subst hvs; rw [hR.src.2]; omega
      · obtain ⟨u, i, w, hu, hku, hE, hd⟩ := hR.par v hv hk hvs
        have := hE.pos hok
        have h1 := rkOf_lt (D := D) (v := v) hu hku (by omega)
        have h2 := ih u hu hku (by omega)
        omega
  exact fun v hv hk => key _ v hv hk (Nat.le_refl _)
theorem RD.small (hR : RD l n s K D) (hok : RoadOk n l) {v : Nat} (hv : v < n) (hk : K v = true) : 0 ≤ D v ∧ D v ≤ 64000 := by
  have h1 := hR.bd hok v hv hk
  have h2 := rkOf_le n K D v
  have h3 := hok.n2
  exact ⟨hR.nn v hv hk, by omega⟩
end
end Go.Proofs.YthobaaefdehoiaaGreat

/-
 Walks: road.node, road.Check, forward.
-/
set_option linter.all false
namespace Go.Proofs.YthobaaefdehoiaaGreat
open Go Go.W Go.RowKit
theorem roadNode (n k : Int) (A : Option Addr) (m cap : Nat) (w0 : World) :
  Calls Tryz.prog 39 #[.agg #[I n, .slice A m cap], I k] w0 fun e w' => e = .returned (.bool (isNode n k)) ∧ Below w0.heap.size w0 w' := by
 have H := SH.refl w0
 refine Calls.ofWP Tryz.func39 rfl Tryz.results39 Tryz.ntmps39 rfl <| Y.qr <| Y.bx (cA rfl) H ?_
 clear H; intro g2 w H
 refine Y.v (Ev.asB rfl) <| Y.z <| Y.qr <| Y.a rfl <| Y.v (Ev.leq rfl rfl) <| Y.v (Ev.mvB rfl) <| Y.g rfl rfl (fun hg => Y.m rfl) <| Y.g rfl rfl (fun hg => Y.f rfl rfl) <| Y.y rfl rfl H 0 (fun hg => gvE hg rfl) rfl rfl <| Y.g rfl rfl (fun hg => Ev.lss (gvE hg rfl) (gvE hg rfl)) <| Y.v (Ev.pickAnd rfl rfl rfl) <| Y.v (Ev.asB rfl) <| Y.z ?_
 refine WP.ret ⟨_, rfl, ?_⟩
 exact ⟨rfl, H.below⟩
set_option maxHeartbeats 400000 in
theorem roadCheck (n : Int) (A : Option Addr) (l : List Edg) (cap : Nat) (w0 : World) (hz : EdgsAt w0 A l) :
  Calls Tryz.prog 20 #[.agg #[I n, .slice A l.length cap]] w0 fun e w' => e = .returned (I (roadErr n l)) ∧ Below w0.heap.size w0 w' := by
 have H := SH.refl w0
 refine Calls.ofWP Tryz.func20 rfl Tryz.results20 Tryz.ntmps20 rfl <| Y.qr <| Y.bx (cA rfl) H ?_
 clear H; intro g1 w H
 refine Y.b rfl <| Y.z <| Y.q <| Y.qr <| Y.fa rfl rfl <| Y.j H 0 rfl rfl rfl <| Y.v (Ev.lss rfl rfl) <| Y.v (Ev.mvB rfl) <| Y.g rfl rfl (fun hg => Y.f rfl rfl) <| Y.y rfl rfl H 0 (fun hg => gvE hg rfl) rfl rfl <| Y.g rfl rfl (fun hg => Ev.gtr (gvE hg rfl) rfl) <| Y.v (Ev.pickOr rfl rfl rfl) <| Y.z ?_
 refine WP.cond rfl (fun hc1 => ?_) (fun hc1 => ?_)
 ·refine Y.qr <| Y.b rfl <| Y.z ?_
  refine WP.ret ⟨_, rfl, ?_⟩
  exact ⟨by rw [roadErr, if_pos hc1]; rfl, H.below⟩
 refine Y.k <| Y.q <| Y.qr <| Y.fa rfl rfl <| Y.j H 0 rfl rfl rfl <| Y.v (Y.n rfl) <| Y.v (Ev.gtr rfl rfl) <| Y.z ?_
 refine WP.cond rfl (fun hc3 => ?_) (fun hc3 => ?_)
 ·refine Y.qr <| Y.b rfl <| Y.z ?_
  refine WP.ret ⟨_, rfl, ?_⟩
  exact ⟨by rw [roadErr, if_neg (by simp [hc1]), if_pos (by simpa using hc3)]; rfl, H.below⟩
 have hl : l.length ≤ 512 := by simp at hc3; omega
 have e0 : roadErr n l = edgsErr n l := by rw [roadErr, if_neg (by simp [hc1]), if_neg (by simpa using hc3)]
 refine Y.k <| Y.q <| Y.qr <| Y.fa rfl rfl <| Y.j H 0 rfl rfl rfl <| Y.v (Y.n rfl) <| Y.a rfl <| Y.z <| WP.block <| WP.loop [2, 4, 20, 21, 22, 23, 24, 25, 26, 27, 28, 29, 30, 31, 32, 33, 34, 35, 36, 37, 38, 39, 40, 41, 42, 43, 44] (fun k e w' => ∃ j : Nat, j + k = l.length ∧ e 20 = .int .i64 j ∧ SH w0 [] w' [⟨g1, 24, [I n, .slice A l.length cap]⟩] ∧ ∀ i (hi : i < l.length), i < j → edgBad n l[i] = false ∧ edgRange l[i] = false) (l.length) (⟨0, by omega, rfl, H, fun i _ hi => absurd hi (by omega)⟩) ?_
 clear H
 rintro k u w ⟨j, hk, h20, H, hall⟩
 refine WP.know (t := 20) h20 <| Y.qr <| Y.v (Ev.lss rfl rfl) <| Y.z <| Y.q ?_
 refine WP.cond rfl (fun hc6 => ?_) (fun hc6 => ?_)
 ·have hlt : j < l.length := by simpa using hc6
  obtain ⟨b, o, rfl, hc⟩ := hz j hlt
  have hc' := cellsAt_sh H hc
  refine Y.k <| Y.q <| WP.block <| Y.qr <| Y.v (Y.X rfl rfl rfl rfl rfl) <| Y.v (by (change Ev _ _ _ _ (Op.load 86 (Operand.tmp 22)) _; exact Ev.loadN (edgCells l[j]) (agg_run rfl) (size_run rfl) rfl hc')) <| Y.al H rfl rfl ?_
  clear H; intro g4 w H
  refine Y.ss 0 H rfl (cA rfl) rfl ?_
  clear H; intro w H
  refine Y.z <| Y.q <| Y.qr <| Y.v (Y.o H 1 rfl rfl) <| Y.fa rfl rfl <| Y.j H 0 rfl rfl rfl <| OPS.call (d := some 27) rfl rfl rfl (EvC.func (fun_run rfl)) (roadNode n l[j].f _ _ _ _) ?_
  rintro _ w ⟨rfl, hb⟩
  refine ⟨_, rfl, ?_⟩
  replace H := H.toBelow hb; clear hb
  refine Y.v (Ev.not rfl) <| Y.v (Ev.mvB rfl) <| Y.g rfl rfl (fun hg => Y.o H 1 rfl rfl) <| Y.g rfl rfl (fun hg => Y.f rfl rfl) <| Y.y rfl rfl H 0 (fun hg => gvE hg rfl) rfl rfl <| OPS.gcall0 (f := 39) (roadNode n l[j].t _ _ _ _) (fun _ _ h => h) rfl rfl rfl rfl rfl (fun hg => EvC.conv (EvC.func (fun_run rfl)) (l2 (gvE hg rfl) (gvE hg rfl))) ?_
  intro w hbc; replace H := H.toBelow hbc
  refine Y.g rfl rfl (fun hg => Ev.not (gvE hg rfl)) <| Y.v (Ev.pickOr rfl rfl rfl) <| Y.z ?_
  refine WP.cond rfl (fun hc8 => ?_) (fun hc8 => ?_)
  ·refine Y.qr <| Y.b rfl <| Y.z ?_
   refine WP.ret ⟨_, rfl, ?_⟩
   exact ⟨by rw [e0, edgsErr_drop (by omega) hall, List.drop_eq_getElem_cons hlt, edgsErr, if_pos (show edgBad n l[j] = true from hc8)]; rfl, H.below⟩
  refine Y.k <| Y.qr <| Y.fa rfl rfl <| Y.j H 0 rfl rfl rfl <| Y.v (Ev.lss rfl rfl) <| Y.v (Ev.mvB rfl) <| Y.g rfl rfl (fun hg => Y.f rfl rfl) <| Y.y rfl rfl H 0 (fun hg => gvE hg rfl) rfl rfl <| Y.g rfl rfl (fun hg => Ev.gtr (gvE hg rfl) rfl) <| Y.v (Ev.pickOr rfl rfl rfl) <| Y.z ?_
  refine WP.cond rfl (fun hc10 => ?_) (fun hc10 => ?_)
  ·refine Y.qr <| Y.b rfl <| Y.z ?_
   refine WP.ret ⟨_, rfl, ?_⟩
   exact ⟨by rw [e0, edgsErr_drop (by omega) hall, List.drop_eq_getElem_cons hlt, edgsErr, if_neg (by rw [show edgBad n l[j] = false from hc8]; simp), if_pos (show edgRange l[j] = true from hc10)]; rfl, H.below⟩
  refine Y.k <| Y.r <| Y.v (Y.p rfl rfl) <| Y.a rfl <| Y.z ?_
  refine ⟨Y.ag, k - 1, by omega, j + 1, by omega, rfl, H.drop (by simp), fun i hi hij => ?_⟩
  rcases Nat.lt_succ_iff_lt_or_eq.1 hij with h | rfl
  ·exact hall i hi h
  ·exact ⟨hc8, hc10⟩
 refine WP.exit <| XB.hit <| Y.qr <| Y.b rfl <| Y.z ?_
 refine WP.ret ⟨_, rfl, ?_⟩
 have : j = l.length := by simp at hc6; omega
 subst this
 exact ⟨by rw [e0, edgsErr_drop (by omega) hall]; simp [edgsErr]; rfl, H.below⟩
theorem roadForward (a b s : Int) (w0 : World) :
  Calls Tryz.prog 60 #[.agg #[I a, I b, I s]] w0 fun e w' => e = .returned (.tuple #[I a, I b]) ∧ Below w0.heap.size w0 w' := by
 have H := SH.refl w0
 refine Calls.ofWP Tryz.func60 rfl Tryz.results60 Tryz.ntmps60 rfl <| Y.qr <| Y.bx (cA rfl) H ?_
 clear H; intro g1 w H
 refine Y.b rfl <| Y.b rfl <| Y.z <| Y.q <| WP.rstill mixed (by kernel_rfl) H ?_
 clear H; intro w hbw1 H
 refine Y.fa rfl rfl <| Y.j H 0 rfl rfl rfl <| Y.fa rfl rfl <| Y.j H 0 rfl rfl rfl <| Y.b rfl <| Y.b rfl <| OPS.nil_s ?_
 refine WP.ret ⟨_, rfl, ?_⟩
 exact ⟨rfl, H.below⟩
end Go.Proofs.YthobaaefdehoiaaGreat
