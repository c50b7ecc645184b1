/-
  Pointers and functions compared with nil, slice expressions, clear.
-/
import Derived.Test.YtfddebpeiilohaaNest
set_option linter.all false
namespace Go.W
open Go.RowKit
section
variable {P : Program} {e : Env} {w : World} {ty t : TypeId} {x y : Operand}
theorem Ev.eqlPn {t' : TypeId} {el : TypeId} {a : Option Addr} (hU : ∀ w, (underlying t).run P w = .ok (.pointer el) w) (hx : ev e x = .pointer a) (hy : ev e y = .pointer none) : Ev P e w ty (.binOp .eql t x y t') (.bool a.isNone) :=
  ⟨fun w' _ o ho _ => by
    have hq : ∀ w, (Op.equal t (.pointer a) (.pointer none)).run P w = .ok a.isNone w := by
      intro w
      unfold Op.equal
      rw [show Op.maxDepth = 9999 + 1 from rfl, Op.equalIn]
      cases a <;> simp [hU]
    unfold execOp; rw [ho]; simp [hx, hy, eqGuard, binOp, hq]⟩
theorem Ev.eqlFn {t' : TypeId} {ps rs : Array TypeId} {v : Bool} {f : Fn} {fs cs : Array Value} (hU : ∀ w, (underlying t).run P w = .ok (.func ps rs v) w) (hx : ev e x = .func f fs cs) (hy : ev e y = .nilFunc) : Ev P e w ty (.binOp .eql t x y t') (.bool false) :=
  ⟨fun w' _ o ho _ => by
    have hq : ∀ w, (Op.equal t (.func f fs cs) .nilFunc).run P w = .ok false w := by
      intro w
      unfold Op.equal
      rw [show Op.maxDepth = 9999 + 1 from rfl, Op.equalIn]
      simp [hU]
    unfold execOp; rw [ho]; simp [hx, hy, eqGuard, binOp, hq]⟩
/-- x[j:] of a slice that holds more than j -/
theorem Ev.sliceFrom2 {i : Operand} {el n cap j sz b o : Nat} {k : IntKind} {ii : Int} (hU : ∀ w, (underlying t).run P w = .ok (.slice el) w) (hs : ∀ w, (Go.sizeOf el).run P w = .ok sz w)
    (hx : ev e x = .slice (some ⟨b, o, none⟩) n cap) (hi : ev e i = .int k ii) (hj : ii = (j : Int)) (hle : j ≤ n) (hlt : j < cap) : Ev P e w ty (.slice t x (some i) none none) (.slice (some ⟨b, o + j * sz, none⟩) (n - j) (cap - j)) := by
  have h := Ev.sliceFrom (P := P) (w := w) (ty := ty) hU hs hx hi hj hle
  rw [if_neg (by omega), Option.map_some, addr_add] at h
  exact h
end
/-- some of the first blocks, in another order; those behind stay -/
theorem SH.reidxT {w0 w : World} {S : List Nat} {L L' Lo : List Blk} (H : SH w0 S w (L ++ Lo)) (idx : List Nat) (hn : idx.Nodup) (hi : idx.map (fun i => L[i]?) = L'.map some) : SH w0 S w (L' ++ Lo) := by
  have h1 := (H.drop (List.sublist_append_left L Lo)).reidx idx hn hi
  have h2 := H.drop (List.sublist_append_right L Lo)
  have hmem : ∀ b ∈ L', b ∈ L := by
    intro b hb
    have h3 : some b ∈ idx.map (fun i => L[i]?) := by rw [hi]; exact List.mem_map_of_mem hb
    obtain ⟨i, _, h4⟩ := List.mem_map.1 h3
    exact List.mem_of_getElem? h4
  refine ⟨H.os, H.tape, H.output, H.size, H.low, fun b hb => ?_, fun b hb => ?_, ?_⟩
  · rcases List.mem_append.1 hb with hb | hb
    · exact h1.own b hb
    · exact h2.own b hb
  · rcases List.mem_append.1 hb with hb | hb
    · exact h1.may b hb
    · exact h2.may b hb
  · have hd := H.nodup
    rw [List.map_append, List.nodup_append] at hd ⊢
    refine ⟨h1.nodup, h2.nodup, fun a ha b hb => ?_⟩
    obtain ⟨c, hc, rfl⟩ := List.mem_map.1 ha
    exact hd.2.2 c.g (List.mem_map_of_mem (hmem c hc)) b hb
theorem upd_comm {e : Env} {a b : Nat} {x y : Value} (h : Nat.beq a b = false) : upd (upd e a x) b y = upd (upd e b y) a x := by
  have hne : a ≠ b := fun he => by subst he; rw [Nat.beq_refl] at h; cases h
  funext j
  simp only [upd]
  cases h1 : Nat.beq j b <;> cases h2 : Nat.beq j a <;> try rfl
  exact absurd ((Nat.eq_of_beq_eq_true h2).symm.trans (Nat.eq_of_beq_eq_true h1)) hne
theorem OPH.named {P : Program} {N : Nat} {ops : Array Oper} {K : Env → World → Prop} {w0 w : World} {S : List Nat} {L : List Blk} {f f' : Nat} {ls ls' : Array Bool} {e : Env} (hf : f = f') (hl : ls = ls')
    (h : ∀ Q : Nat → Array Bool → Env → World → Prop, Q = OPH P N ops K w0 S L → Q f' ls' e w) : OPH P N ops K w0 S L f ls e w := by subst hf hl; exact h _ rfl
theorem qcast {Q : Nat → Array Bool → Env → World → Prop} {f : Nat} {ls ls' : Array Bool} {e : Env} {w : World} (hl : ls = ls') (h : Q f ls' e w) : Q f ls e w := hl ▸ h
section
variable {P : Program} {N : Nat} {ops : Array Oper} {K : Env → World → Prop} {e : Env} {w w0 : World} {S : List Nat} {L : List Blk} {rest : List Oper} {o : Oper} {t : TypeId} {x y : Operand}
/-- an operation whose value is not kept -/
theorem OPS.actv {v : Value} {w' : World} (hg : o.guard = none) (hd : o.dst = none) (hr : (execOp (ev e) o).run P w = .ok (.value v) w')
    (h : OPS P N .plain ops K rest e w') : OPS P N .plain ops K (o :: rest) e w :=
  ⟨fun a h1 h2 h3 => by
    have hn := h.run a h1 h2 h3
    rw [← h1, ← eval_eq] at hr
    simp only at hn ⊢
    unfold wpList
    rw [if_pos (wanted_none hg _)]
    refine .inl ?_
    unfold Oper.wp
    rw [hr]
    simp only [Oper.upon, hd, Act.put]
    exact hn⟩
/-- clear(s) -/
theorem OPS.clear {el n c : Nat} {z : Value} {b : Blk} {zs : List Value} (i k : Nat) (hg : o.guard = none) (hd : o.dst = none)
    (hop : o.op = .call { callee := .builtin .clear, args := #[x], argTypes := #[t] }) (hU : ∀ w, (underlying t).run P w = .ok (.slice el) w) (hz : ∀ w, (zeroValue el).run P w = .ok z w) (hzs : z.cells = zs.toArray) (hz0 : 0 < zs.length)
    (h1 : (zs.all (·.oneCell')) = true) (hx : ev e x = .slice (some ⟨b.g, k, none⟩) n c) (hn : 0 < n) (H : SH w0 S w L) (hi : L[i]? = some b) (hk : k + n * zs.length ≤ b.cs.length)
    (h : ∀ w', SH w0 S w' (L.set i ⟨b.g, b.T, putL b.cs k (mkL n zs)⟩) → OPS P N .plain ops K rest e w') : OPS P N .plain ops K (o :: rest) e w := by
  have hm1 : ((mkL n zs).all (·.oneCell')) = true := by
    rw [List.all_eq_true] at h1 ⊢
    intro v hv
    rw [mkL, List.mem_flatten] at hv
    obtain ⟨l, hl, hv⟩ := hv
    rw [List.eq_of_mem_replicate hl] at hv
    exact h1 v hv
  obtain ⟨w', hr, H'⟩ := store_run (P := P) (mkL n zs) w L b k 0 H hi (by rw [mkL_length]; omega) hm1
  refine OPS.actv (v := .tuple #[]) (w' := w') hg hd ?_ (h w' H')
  have hzc : (Builtin.zeroCells z.cells n).toList = mkL n zs := by
    rw [hzs]
    have := mkCells n hz0
    simp only [Builtin.zeroCells] at *
    exact congrArg Array.toList this
  obtain ⟨m, rfl⟩ : ∃ m, n = m + 1 := ⟨n - 1, by omega⟩
  unfold execOp; rw [hop]
  simp [resolve, invoke, builtin, hx, Builtin.clear_, hU, hz, hzc, hr]
end
end Go.W
