/-
  Rules for slices that the call makes itself, for results that lie in memory, for guarded calls.
-/
import Derived.Test.YtfddebpeiilohaaEvs
import Derived.Maps.AppendAt
set_option linter.all false
namespace Go.W
open Go.RowKit

/-! ### results that may lie in memory -/
def resVal (P : Program) (e : Env) (w : World) : ResultVar → Value → Prop
  | .tmp t, v => e t = v
  | .cell a t, v => ∃ ad, e a = .pointer (some ad) ∧ (loadVar t ad).run P w = .ok v w
def ResL (P : Program) (e : Env) (w : World) : List ResultVar → List Value → Prop
  | [], [] => True
  | r :: rs, v :: vs => resVal P e w r v ∧ ResL P e w rs vs
  | _, _ => False
def tup : List Value → Value
  | [v] => v
  | vs => .tuple vs.toArray
section
variable {P : Program} {N : Nat} {e : Env} {w w0 : World} {S : List Nat} {L : List Blk}
theorem results_mapM (tmps : Array Value) : ∀ (l : List ResultVar) (vs : List Value), ResL P (fun t => tmps.getD t undef) w l vs →
    (l.mapM (m := Sem) fun | .tmp t => pure (tmps.getD t undef) | .cell a t => do loadVar t (← asAddr (tmps.getD a undef))).run P w = .ok vs w
  | [], [], _ => by simp
  | r :: rs, v :: vs, h => by
    obtain ⟨h1, h2⟩ := h
    have ih := results_mapM tmps rs vs h2
    rw [List.mapM_cons]
    cases r with
    | tmp t =>
      have h1 : tmps.getD t undef = v := h1
      simp only [Sem.run_bind, Sem.run_pure, Result.andThen_ok, ih, h1]
    | cell a t =>
      obtain ⟨ad, h3, h4⟩ := h1
      have h3 : tmps.getD a undef = .pointer (some ad) := h3
      have hA : (asAddr (tmps.getD a undef)).run P w = .ok ad w := by rw [h3]; rfl
      simp only [Sem.run_bind, hA, Sem.run_pure, Result.andThen_ok, h4, ih]
  | [], _ :: _, h => h.elim
  | _ :: _, [], h => h.elim
theorem results_ofL {fn : Func} {l : List ResultVar} (hl : fn.results = l.toArray) {tmps : Array Value} {vs : List Value} (h : ResL P (fun t => tmps.getD t undef) w l vs) :
    (results fn tmps).run P w = .ok (tup vs) w := by
  unfold results
  rw [hl, List.mapM_toArray]
  have := results_mapM tmps l vs h
  simp only [map_eq_pure_bind, bind_assoc, pure_bind, Sem.run_bind] at this ⊢
  refine (congrArg (fun r => Result.andThen r _) this).trans ?_
  simp only [Result.andThen_ok]
  match vs with
  | [] => simp [tup]
  | [v] => simp [tup]
  | v :: u :: vs => simp [tup]
theorem Calls.ofWPc {f : FuncId} {fn : Func} {c : Code} {args : List Value} {l : List ResultVar} {R : Ending → World → Prop}
    (hf : P.funcs[f]? = some fn) (hb : fn.body = some c) (hl : fn.results = l.toArray) (hN : fn.ntmps = N) (hle : Nat.ble args.length N = true)
    (h : WP P N c (fun e w => ∃ vs, ResL P e w l vs ∧ R (.returned (tup vs)) w) NoX (fun e w => ∃ vs, ResL P e w l vs ∧ R (.returned (tup vs)) w) (envAt args) w) :
    Calls P f args.toArray w R := by
  have hle' : args.length ≤ N := by simpa using hle
  refine calls_of_wp hf hb (Code.wp_mono (fun ex a w hp => ?_) (h.run _ ?_ ?_ rfl))
  · cases ex <;> simp only [post, NoX] at hp <;> simp only [bodyPost]
    · obtain ⟨_, h2, v, h3, h4⟩ := hp
      exact ⟨h2, _, results_ofL hl h3, h4⟩
    · exact hp.2.2
    · obtain ⟨_, h2, v, h3, h4⟩ := hp
      exact ⟨h2, _, results_ofL hl h3, h4⟩
  · funext j
    simp only [envOf, envAt]
    by_cases hj : j < args.length
    · simp [hj, Array.getElem?_append]
    · simp [hj, Array.getElem?_append, Array.getElem?_replicate]
      split <;> rfl
  · simp [hN]; omega
/-- a result variable that fills a block of its own -/
theorem resCellA {t a n : Nat} (i : Nat) {g : Nat} {T : TypeId} {cs : List Value} (H : SH w0 S w L) (hi : L[i]? = some ⟨g, T, cs⟩) (hA : ∀ w, (isAgg t).run P w = .ok true w) (hn : ∀ w, (Go.sizeOf t).run P w = .ok n w) (hl : cs.length = n)
    (ha : e a = .pointer (some ⟨g, 0, none⟩)) : resVal P e w (.cell a t) (.agg cs.toArray) :=
  ⟨_, ha, by
    have hc := cellsAt_own H i hi cs 0 fun j hj => by rw [Nat.zero_add]; exact List.getElem?_eq_getElem hj
    simp only [loadVar, Sem.run_bind, hA, Result.andThen_ok, if_true, hn, ← hl, loadCells_at cs hc, Sem.run_pure]⟩
theorem resCell1 {t a : Nat} (i : Nat) {g : Nat} {T : TypeId} {v : Value} (H : SH w0 S w L) (hi : L[i]? = some ⟨g, T, [v]⟩) (hA : ∀ w, (isAgg t).run P w = .ok false w)
    (ha : e a = .pointer (some ⟨g, 0, none⟩)) : resVal P e w (.cell a t) v :=
  ⟨_, ha, by
    have hc := H.ldL i hi 0 (v := v) rfl
    simp only [loadVar, Sem.run_bind, hA, Result.andThen_ok, Bool.false_eq_true, if_false, run_load, hc]⟩
end

section
variable {P : Program} {N : Nat} {ops : Array Oper} {K : Env → World → Prop} {e : Env} {w w0 : World} {S : List Nat} {L : List Blk} {rest : List Oper} {o : Oper} {t : TypeId} {x y : Operand}
/-- a guarded call in a plain region -/
theorem OPS.gcall {d j dj : Nat} {want b : Bool} {f : FuncId} {args : List Value} {v : Value} (hg : o.guard = some (j, want)) (hj : ops[j]?.bind (·.dst) = some dj) (hb : e dj = .bool b) (hd : o.dst = some d) (hN : Nat.blt d N = true)
    (hE : b = want → EvC P e o.op f args) (hC : b = want → Calls P f args.toArray w fun e' w' => e' = .returned v ∧ Below w.heap.size w w')
    (h : ∀ w', Below w.heap.size w w' → OPS P N .plain ops K rest (upd e d (gv b want v)) w') : OPS P N .plain ops K (o :: rest) e w :=
  ⟨fun a h1 h2 h3 => by
    have hn := fun w' hb => (h w' hb).run (a.put (some d) (gv b want v)) (by rw [envOf_put _ h2 hN, h1]) (by rw [size_put]; exact h2) (by rw [defers_put]; exact h3)
    have hy := yielded_of (a := a) hj (h1 ▸ hb)
    simp only at hn ⊢
    unfold wpList
    by_cases hw : b = want
    · subst hw
      have hwt : Region.wanted o (yielded ops a.tmps) = true := by simp [Region.wanted, hg, hy]
      have hgv : gv b b v = v := by simp [gv]
      rw [hgv] at hn
      rw [if_pos hwt]
      refine .inl ?_
      unfold Oper.wp
      have hr := (hE rfl).run w o rfl
      rw [← h1, ← eval_eq] at hr
      rw [hr]
      refine (hC rfl).mono fun e' w' ⟨he, hb2⟩ => ?_
      subst he
      rw [hd]
      exact hn w' hb2
    · have hwt : Region.wanted o (yielded ops a.tmps) = false := by simp [Region.wanted, hg, hy, hw]
      have hgv : gv b want v = undef := by simp [gv, hw]
      rw [hgv] at hn
      rw [hwt, hd]; exact hn w (Below.refl _ _)⟩

/-- the same, where the contract does not lean on the guard (the contract first, so that it fixes the arguments) -/
theorem OPS.gcall0 {d j dj : Nat} {want b : Bool} {f : FuncId} {args : List Value} {v : Value} {R : Ending → World → Prop} (hC : Calls P f args.toArray w R) (hR : ∀ e' w', R e' w' → e' = .returned v ∧ Below w.heap.size w w')
    (hg : o.guard = some (j, want)) (hj : ops[j]?.bind (·.dst) = some dj) (hb : e dj = .bool b) (hd : o.dst = some d) (hN : Nat.blt d N = true)
    (hE : b = want → EvC P e o.op f args) 
    (h : ∀ w', Below w.heap.size w w' → OPS P N .plain ops K rest (upd e d (gv b want v)) w') : OPS P N .plain ops K (o :: rest) e w :=
  OPS.gcall hg hj hb hd hN hE (fun _ => hC.mono hR) h

/-! ### slices of the call's own -/
structure SlFact (P : Program) (t el sz bt : Nat) (zs : List Value) : Prop where
  und : P.underlying t = some (.slice el)
  info : ∃ i z, P.info? el = some i ∧ i.zero = some z ∧ i.size = sz ∧ i.bytes = bt ∧ z.cells = zs.toArray
  len : zs.length = sz
  pos : 0 < sz
theorem SlFact.undRun {el sz bt : Nat} {zs : List Value} (h : SlFact P t el sz bt zs) (w : World) : (underlying t).run P w = .ok (.slice el) w := run_underlying h.und w
theorem SlFact.mk' {el sz bt : Nat} {z : Value} {zs : List Value} (hu : P.underlying t = some (.slice el)) (hi : (P.info? el).map (fun i => (i.zero, i.size, i.bytes)) = some (some z, sz, bt)) (hz : z.cells = zs.toArray) (hl : zs.length = sz) (hp : 0 < sz) : SlFact P t el sz bt zs := by
  obtain ⟨i, h1, h2, h3, h4⟩ := info_parts hi
  exact ⟨hu, ⟨i, z, h1, h2, h3, h4, hz⟩, hl, hp⟩
def mkL (n : Nat) (zs : List Value) : List Value := (List.replicate n zs).flatten
theorem mkL_length (n : Nat) (zs : List Value) : (mkL n zs).length = n * zs.length := by simp [mkL]
theorem mkL_one (n : Nat) (z : Value) : mkL n [z] = List.replicate n z := by
  induction n with
  | zero => rfl
  | succ n ih => simp [mkL, List.replicate_succ] at ih ⊢
theorem mkL_get (zs : List Value) : ∀ (n i : Nat), i < n * zs.length → (mkL n zs)[i]? = zs[i % zs.length]?
  | 0, i, h => by simp at h
  | n + 1, i, h => by
    have e : mkL (n + 1) zs = zs ++ mkL n zs := by simp [mkL, List.replicate_succ]
    rw [e]
    by_cases hi : i < zs.length
    · rw [List.getElem?_append_left hi, Nat.mod_eq_of_lt hi]
    · have hi' : zs.length ≤ i := by omega
      rw [List.getElem?_append_right hi', mkL_get zs n (i - zs.length) (by rw [Nat.succ_mul] at h; omega), Nat.mod_eq_sub_mod hi']
theorem mkCells {zs : List Value} (n : Nat) (h : 0 < zs.length) : ((Array.range (n * zs.length)).map fun i => zs.toArray[i % zs.toArray.size]!) = (mkL n zs).toArray := by
  apply Array.ext_getElem?
  intro i
  simp only [List.getElem?_toArray, List.size_toArray]
  by_cases hi : i < n * zs.length
  · rw [mkL_get zs n i hi]
    have hm := Nat.mod_lt i h
    simp [hi, hm]
  · rw [Array.getElem?_eq_none (by simp; omega), List.getElem?_eq_none (by rw [mkL_length]; omega)]
theorem run_makeSlice_own {el sz bt : Nat} {zs : List Value} (hf : SlFact P t el sz bt zs) (m : Nat) (k k' : IntKind) (hb : bt * m ≤ 140737488355328) (hm : m ≤ 9223372036854775807) (w : World) :
    (Instr.makeSlice t (.int k (m : Int)) (.int k' (m : Int))).run P w = .ok (.slice (some ⟨w.heap.size, 0, none⟩) m m) (w.alloc (.cells (mkL m zs).toArray el)) := by
  obtain ⟨i, z, h1, h2, h3, h4, h5⟩ := hf.info
  have hw : IntKind.i64.wrap (m : Int) = m := IntWalk.i64_in _ ⟨by omega, by omega⟩
  have ht : (typeInfo el).run P w = .ok i w := by unfold typeInfo program; simp only [Sem.run_bind, Sem.run, Result.andThen_ok, h1, Sem.run_pure]
  have hs : (Go.sizeOf el).run P w = .ok sz w := by unfold Go.sizeOf; simp only [Sem.run_bind, ht, Result.andThen_ok, h3, Sem.run_pure]
  have hz : (zeroValue el).run P w = .ok z w := by unfold zeroValue; simp only [Sem.run_bind, ht, Result.andThen_ok, h2, Sem.run_pure]
  have c1 : ((bt : Int) * (m : Int) > 2 ^ 48) = False := by
    have : ((bt * m : Nat) : Int) ≤ 140737488355328 := Int.ofNat_le.2 hb
    rw [Int.natCast_mul] at this
    refine eq_false fun h => ?_
    have h : (2:Int) ^ 48 < (bt : Int) * (m : Int) := h
    have : (2:Int) ^ 48 = 281474976710656 := by decide
    omega
  have c2 : ((m : Int) < 0) = False := by simp
  have e1 : (Array.map (fun i => (z.cells)[i % z.cells.size]!) (Array.range (m * sz))) = (mkL m zs).toArray := by
    rw [h5, ← hf.len]; exact mkCells m (by rw [hf.len]; exact hf.pos)
  simp only [Instr.makeSlice, Sem.run_bind, run_underlying hf.und, Result.andThen_ok, asInt, asIntOf, Sem.run_pure, ht, h4, hw, c1, c2]
  simp only [decide_false, Bool.or_false, Int.lt_irrefl, gt_iff_lt, Bool.false_eq_true, if_false, askRoom]
  split <;> simp only [mark, Sem.run_pure, Sem.run, Result.andThen_ok, hs, Int.toNat_natCast, Sem.run_bind]
  all_goals
    by_cases hn : m * sz = 0
    · have hm0 : m = 0 := by
        rcases Nat.mul_eq_zero.1 hn with h | h
        · exact h
        · have := hf.pos; omega
      subst hm0
      simp [newRow, newObj, Sem.run, mkL]
      congr 2
      apply Array.ext_getElem?; intro i; simp
    · simp [hn, hz, newRow, newObj, Sem.run, e1]
theorem OPS.makeSlice {d el sz bt m : Nat} {n : Int} {k k' : IntKind} {zs : List Value} (hg : o.guard = none) (hd : o.dst = some d) (hN : Nat.blt d N = true) (hop : o.op = .makeSlice t x y) (hf : SlFact P t el sz bt zs)
    (hx : ev e x = .int k n) (hy : ev e y = .int k' n) (hn : n = (m : Int)) (hb : bt * m ≤ 140737488355328) (hm : m ≤ 9223372036854775807) (H : SH w0 S w L)
    (h : ∀ g w', SH w0 S w' (⟨g, el, mkL m zs⟩ :: L) → OPS P N .plain ops K rest (upd e d (.slice (some ⟨g, 0, none⟩) m m)) w') : OPS P N .plain ops K (o :: rest) e w := by
  subst hn
  refine OPS.act (v := .slice (some ⟨w.heap.size, 0, none⟩) m m) (w' := w.alloc (.cells (mkL m zs).toArray el)) hg hd hN ?_ (h _ _ (H.alloc _ _))
  unfold execOp; rw [hop]
  simp only [hx, hy, Sem.run_bind, run_makeSlice_own hf m k k' hb hm w, Result.andThen_ok, Sem.run_pure]
/-- a literal slice -/
theorem OPS.buildSlice {d el n : Nat} {cs : List Value} {parts : List (Nat × Operand)} (hg : o.guard = none) (hd : o.dst = some d) (hN : Nat.blt d N = true) (hop : o.op = .buildSlice t n parts.toArray)
    (hr : ∀ w, (Instr.buildSlice t n (parts.map fun p => (p.1, ev e p.2)).toArray).run P w = .ok (.slice (some ⟨w.heap.size, 0, none⟩) n n) (w.alloc (.cells cs.toArray el))) (H : SH w0 S w L)
    (h : ∀ g w', SH w0 S w' (⟨g, el, cs⟩ :: L) → OPS P N .plain ops K rest (upd e d (.slice (some ⟨g, 0, none⟩) n n)) w') : OPS P N .plain ops K (o :: rest) e w := by
  refine OPS.act (v := .slice (some ⟨w.heap.size, 0, none⟩) n n) (w' := w.alloc (.cells cs.toArray el)) hg hd hN ?_ (h _ _ (H.alloc _ _))
  unfold execOp; rw [hop]
  simp only [List.map_toArray, Sem.run_bind, hr, Result.andThen_ok, Sem.run_pure]
theorem src_own (H : SH w0 S w L) (i : Nat) {g : Nat} {T : TypeId} {cs : List Value} (hi : L[i]? = some ⟨g, T, cs⟩) : ∃ b o, some (⟨g, 0, none⟩ : Addr) = some ⟨b, o, none⟩ ∧ cellsAt w b o cs :=
  ⟨g, 0, rfl, cellsAt_own H i hi cs 0 fun j hj => by rw [Nat.zero_add]; exact List.getElem?_eq_getElem hj⟩
/-- a growing slice of the call's own: nothing yet (Lo = []), or one block -/
structure OwnS (A : Option Addr) (cap n : Nat) (xs : List Value) (el sz : Nat) (Lo : List Blk) : Prop where
  len : xs.length = n * sz
  form : (A = none ∧ n = 0 ∧ cap = 0 ∧ Lo = []) ∨ ∃ g sp, A = some ⟨g, 0, none⟩ ∧ Lo = [⟨g, el, xs ++ sp⟩] ∧ n ≤ cap ∧ cap ≤ maxLen ∧ (xs ++ sp).length = cap * sz
theorem OwnS.nil {el sz : Nat} : OwnS none 0 0 [] el sz [] := ⟨by simp, .inl ⟨rfl, rfl, rfl, rfl⟩⟩
theorem OwnS.toOwns {A : Option Addr} {cap n el sz : Nat} {xs : List Value} {Lo R : List Blk} (h : OwnS A cap n xs el sz Lo) (H : SH w0 S w (R ++ Lo)) : w.ownsRow 0 el sz (.slice A n cap) n xs := by
  refine ⟨h.len, ?_⟩
  rcases h.form with ⟨rfl, rfl, rfl, _⟩ | ⟨g, sp, rfl, rfl, h1, h2, h3⟩
  · exact .inl ⟨rfl, rfl⟩
  · have := H.own ⟨g, el, xs ++ sp⟩ (by simp)
    exact .inr ⟨g, cap, _, rfl, Nat.zero_le _, this, h1, h2, by simpa using h3, by simp [← h.len]⟩
theorem SH.perm {L' : List Blk} (H : SH w0 S w L) (hp : L.Perm L') : SH w0 S w L' :=
  ⟨H.os, H.tape, H.output, H.size, H.low, fun b hb => H.own b (hp.mem_iff.2 hb), fun b hb => H.may b (hp.mem_iff.2 hb), (hp.map _).nodup_iff.1 H.nodup⟩
/-- 's = append(s, x...)' onto a growing slice -/
theorem OPS.append {d el sz bt n m cap cx : Nat} {ty2 : Array TypeId} {A Ax : Option Addr} {zs xs news : List Value} {Lo R : List Blk} (hg : o.guard = none) (hd : o.dst = some d) (hN : Nat.blt d N = true)
    (hop : o.op = .call { callee := .builtin .append, args := #[x, y], argTypes := ty2 }) (hty : ty2 = #[t, t]) (hf : SlFact P t el sz bt zs)
    (hx : ev e x = .slice A n cap) (hy : ev e y = .slice Ax m cx) (hO : OwnS A cap n xs el sz Lo) (hl : news.length = m * sz) (hs : ∃ b o, Ax = some ⟨b, o, none⟩ ∧ cellsAt w b o news) (h1 : (news.all (·.oneCell')) = true)
    (hbd : (n + m) * bt ≤ 140737488355328) (hbd2 : n + m ≤ maxLen) (H : SH w0 S w L) (hp : L.Perm (R ++ Lo))
    (h : ∀ A' cap' Lo' w', OwnS A' cap' (n + m) (xs ++ news) el sz Lo' → SH w0 S w' (R ++ Lo') → OPS P N .plain ops K rest (upd e d (.slice A' (n + m) cap')) w') : OPS P N .plain ops K (o :: rest) e w := by
  have H' := H.perm hp
  have hown := hO.toOwns H'
  obtain ⟨i, z, i1, i2, i3, i4, i5⟩ := hf.info
  obtain ⟨b, of, rfl, hc⟩ := hs
  have hcl : ∀ j u, news[j]? = some u → w.cell? ((⟨b, of, none⟩ : Addr).add j) = some u := by
    intro j u hj
    rw [addr_add]
    have : ∀ (l : List Value) (o j : Nat), cellsAt w b o l → ∀ u, l[j]? = some u → w.cell? ⟨b, o + j, none⟩ = some u := by
      intro l
      induction l with
      | nil => intro o j _ u hu; simp at hu
      | cons v l ih =>
        intro o j hc u hu
        cases j with
        | zero => simp at hu; subst hu; exact hc.1
        | succ j => have := ih (o + 1) j hc.2 u (by simpa using hu); rw [show o + (j + 1) = o + 1 + j by omega]; exact this
    exact this news of j hc u hj
  obtain ⟨v', w', hrun, hown', hgr, _, hat⟩ := run_append_own_at (P := P) w 0 t o.type el i z sz bt hf.und i1 i2 i3 i4 (by rw [i5]; simpa using hf.len) hf.pos (.slice A n cap) n xs hown ⟨b, of, none⟩ m cx news hl hcl
    (fun u hu => by simpa using List.all_eq_true.1 h1 u hu) hbd2 hbd (Nat.zero_le _)
  -- the new value's form
  have key : ∃ A' cap' Lo', v' = .slice A' (n + m) cap' ∧ OwnS A' cap' (n + m) (xs ++ news) el sz Lo' ∧ SH w0 S w' (R ++ Lo') := by
    have hR : ∀ c ∈ R, some c.g ≠ (Value.slice A n cap).ownBlock := by
      intro c hcR
      rcases hO.form with ⟨rfl, _, _, _⟩ | ⟨g, sp, rfl, rfl, _⟩
      · simp [Value.ownBlock]
      · simp only [Value.ownBlock, ne_eq, Option.some.injEq]
        intro he
        have hn := H'.nodup
        rw [List.map_append, List.nodup_append] at hn
        exact hn.2.2 c.g (List.mem_map_of_mem hcR) g (by simp) he
    have hlow : ∀ k, k < w0.heap.size → k ∉ S → w'.heap[k]? = w0.heap[k]? := by
      intro k hk hS
      rw [hgr.block k (Nat.lt_of_lt_of_le hk H'.size) ?_]
      · exact H'.low k hk hS
      · rcases hO.form with ⟨rfl, _, _, _⟩ | ⟨g, sp, rfl, rfl, _⟩
        · simp [Value.ownBlock]
        · simp only [Value.ownBlock, ne_eq, Option.some.injEq]
          intro he
          rcases H'.may ⟨g, el, xs ++ sp⟩ (by simp) with hh | hh
          · have hh : w0.heap.size ≤ g := hh
            omega
          · exact hS (he ▸ hh)
    have hRown : ∀ c ∈ R, w'.heap[c.g]? = some (.cells c.cs.toArray c.T (0, 0)) := fun c hcR =>
      (hgr.block c.g (H'.lt (List.mem_append_left _ hcR)) (hR c hcR)).trans (H'.own c (List.mem_append_left _ hcR))
    rcases hown'.2 with ⟨rfl, h0⟩ | ⟨g, cap', cur, rfl, _, hblk, hle, hmx, hsz, htk⟩
    · refine ⟨none, 0, [], by rw [h0], ⟨hown'.1, .inl ⟨rfl, h0, rfl, rfl⟩⟩, ?_⟩
      exact ⟨hgr.os.trans H'.os, hgr.tape.trans H'.tape, hgr.output.trans H'.output, Nat.le_trans H'.size hgr.size, hlow, fun c hc => hRown c (by simpa using hc), fun c hc => H'.may c (by simp at hc; simp [hc]), by
        have := H'.nodup; rw [List.map_append, List.nodup_append] at this; simpa using this.1⟩
    · have hgm : w0.heap.size ≤ g ∨ g ∈ S := by
        rcases hat with ha | ha
        · simp only [Value.ownBlock] at ha
          rcases hO.form with ⟨rfl, _, _, _⟩ | ⟨g', sp, rfl, rfl, _⟩
          · simp at ha
          · simp at ha; subst ha; exact H'.may ⟨g, el, xs ++ sp⟩ (by simp)
        · simp only [Value.ownBlock, Option.some.injEq] at ha
          have hh := H'.size
          exact .inl (by rw [ha]; exact hh)
      have hgR : ∀ c ∈ R, c.g ≠ g := by
        intro c hcR he
        rcases hat with ha | ha
        · exact hR c hcR (by rw [← ha, he]; rfl)
        · simp only [Value.ownBlock, Option.some.injEq] at ha
          have := H'.lt (List.mem_append_left _ hcR); omega
      have hcur : cur = ((xs ++ news) ++ cur.toList.drop ((n + m) * sz)).toArray := by
        rw [← htk, List.take_append_drop]
      refine ⟨some ⟨g, 0, none⟩, cap', [⟨g, el, (xs ++ news) ++ cur.toList.drop ((n + m) * sz)⟩], rfl, ⟨hown'.1, .inr ⟨g, _, rfl, rfl, hle, hmx, ?_⟩⟩, ?_⟩
      · have := congrArg Array.size hcur
        simp only [List.size_toArray] at this
        rw [← this]; exact hsz
      · refine ⟨hgr.os.trans H'.os, hgr.tape.trans H'.tape, hgr.output.trans H'.output, Nat.le_trans H'.size hgr.size, hlow, fun c hc => ?_, fun c hc => ?_, ?_⟩
        · rcases List.mem_append.1 hc with hc | hc
          · exact hRown c hc
          · simp at hc; subst hc
            have h2 := hcur
            rw [List.append_assoc] at h2
            simp only [List.append_assoc]
            rw [← h2]; exact hblk
        · rcases List.mem_append.1 hc with hc | hc
          · exact H'.may c (List.mem_append_left _ hc)
          · simp at hc; subst hc; exact hgm
        · have hn := H'.nodup
          rw [List.map_append, List.nodup_append] at hn
          rw [List.map_append, List.nodup_append]
          refine ⟨hn.1, by simp, fun a ha b hb => ?_⟩
          simp at hb; subst hb
          obtain ⟨c, hc, rfl⟩ := List.mem_map.1 ha
          exact hgR c hc
  obtain ⟨A', cap', Lo', rfl, hO', H2⟩ := key
  refine OPS.act (v := .slice A' (n + m) cap') (w' := w') hg hd hN ?_ (h A' cap' Lo' w' hO' H2)
  unfold execOp; rw [hop, hty]
  simp only [resolve, Sem.run_bind, Sem.run_pure, Result.andThen_ok, invoke, builtin]
  simp [hx, hy, hrun]
end
end Go.W
