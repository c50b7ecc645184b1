/-
  Arguments, read: what the cells of a datum are, type by type.
-/
import Derived.Test.YtfddebpeiilohaaFacts
import Derived.Deep.Slices
import Derived.ChangeOld
import Derived.ProofKit
import Derived.OpenShut
import Derived.Scope
import Derived.RangeFuncBox
import Derived.RangeFuncLeaves
import Derived.Shelf.Abstract
import Derived.WalkKit
import Derived.OwnWalkIn
import Derived.TacticsInMore
import Derived.LoopNIn
import Derived.LoopIn
import Derived.Maps.AppendAt
import Derived.Test.YtfddebpeiilohaaProg
import Derived.Shelf.Sort.Plain
import Derived.Shelf.Slices.Reverse
import Derived.Ground.Names2Prog
import Derived.Shelf.Slices.CompactI
import Derived.Shelf.Slices.In.SortNone
import Derived.Sort.OwnSortedInts
set_option linter.all false
namespace Go.W
open Go.RowKit Go.Deep

theorem exists_list {α : Type} {p : Nat → α → Prop} : ∀ (n : Nat), (∀ i, i < n → ∃ a, p i a) → ∃ l : List α, l.length = n ∧ ∀ i (h : i < l.length), p i l[i]
  | 0, _ => ⟨[], rfl, fun i h => absurd h (by simp)⟩
  | n + 1, h => by
    obtain ⟨l, h1, h2⟩ := exists_list (p := p) n fun i hi => h i (by omega)
    obtain ⟨a, ha⟩ := h n (by omega)
    refine ⟨l ++ [a], by simp [h1], fun i hi => ?_⟩
    by_cases hl : i < l.length
    · rw [List.getElem_append_left hl]; exact h2 i hl
    · simp only [List.length_append, List.length_cons, List.length_nil] at hi
      obtain rfl : i = n := by omega
      rw [List.getElem_append_right (by omega)]
      simpa [h1] using ha
section
variable {H : Type} {enc : TypeId × Value → H} {P : Program} {w : World} {base : Nat} {spare : Nat → Bool} {held : Bool}
/-- a datum of type t is some 'a', whose cells are 'cells a', and G holds of it -/
structure Rd (enc : TypeId × Value → H) (P : Program) (w : World) (base : Nat) (spare : Nat → Bool) (held : Bool) (t : TypeId) {α : Type} (cells : α → List Value) (G : α → Prop) : Prop where
  out : ∀ fuel cs x, DataW.trod enc P w base spare held fuel t cs = some x → ∃ a, cs = cells a ∧ G a
theorem Rd.int {t : TypeId} {k : IntKind} (ht : P.underlying t = some (.int k)) : Rd enc P w base spare held t (fun n : Int => [.int k n]) (fun n => (Lit.int k n).wf = true) :=
  ⟨fun _ _ _ h => by obtain ⟨n, h1, _, h2⟩ := DataW.trod_int ht h; exact ⟨n, h1, h2⟩⟩
theorem Rd.bool {t : TypeId} (ht : P.underlying t = some .bool) : Rd enc P w base spare held t (fun b : Bool => [.bool b]) (fun _ => True) :=
  ⟨fun _ _ _ h => by obtain ⟨n, h1, _⟩ := DataW.trod_bool ht h; exact ⟨n, h1, trivial⟩⟩
theorem Rd.mono {t : TypeId} {α : Type} {cells : α → List Value} {G G' : α → Prop} (h : Rd enc P w base spare held t cells G) (hG : ∀ a, G a → G' a) : Rd enc P w base spare held t cells G' :=
  ⟨fun f cs x hx => by obtain ⟨a, h1, h2⟩ := h.out f cs x hx; exact ⟨a, h1, hG a h2⟩⟩
structure SlA (α : Type) where
  A : Option Addr
  cap : Nat
  l : List α
def slCells {α : Type} (s : SlA α) : List Value := [.slice s.A s.l.length s.cap]
structure SlG {α : Type} (w : World) (sz : Nat) (cells : α → List Value) (G : α → Prop) (s : SlA α) : Prop where
  rows : RowsAt sz cells w s.A s.l
  len : s.l.length ≤ maxLen
  all : ∀ a ∈ s.l, G a
  le : s.l.length ≤ s.cap
theorem cellsAt_of {b : Nat} : ∀ (vs : List Value) (o : Nat), (∀ j (h : j < vs.length), w.cell? ⟨b, o + j, none⟩ = some vs[j]) → cellsAt w b o vs
  | [], _, _ => trivial
  | v :: vs, o, h => ⟨h 0 (by simp), cellsAt_of vs (o + 1) fun j hj => by
      have := h (j + 1) (by simpa using hj)
      rw [show o + 1 + j = o + (j + 1) by omega]; exact this⟩
theorem Rd.slice {t e : TypeId} {sz : Nat} {α : Type} {cells : α → List Value} {G : α → Prop} (ht : P.underlying t = some (.slice e)) (hs : P.cellsOf e = sz) (h0 : 0 < sz) (he : Rd enc P w base spare held e cells G) :
    Rd enc P w base spare held t (slCells (α := α)) (SlG w sz cells G) := ⟨fun fuel cs x h => by
  rcases open_slice ht h with ⟨h1, _⟩ | ⟨a, len, cap, m, n, D, Pl, rfl, hb, hl, hm, hmm, _, hx⟩
  · exact ⟨⟨none, 0, []⟩, h1, ⟨RowsAt.nil, by simp, by simp, by simp⟩⟩
  · rw [hs] at hx
    have hlm : len ≤ m := by rw [hmm]; split <;> omega
    obtain ⟨l, h1, h2⟩ := exists_list (p := fun i (q : α) => G q ∧ w.cells? base (a.add (i * sz)) sz = some (cells q)) len fun i hi => by
      obtain ⟨cs', c1, c2⟩ := hx i (by omega)
      obtain ⟨q, rfl, hq⟩ := he.out _ _ _ c2
      exact ⟨q, hq, c1⟩
    refine ⟨⟨some a, cap, l⟩, by simp [slCells, h1], ⟨fun k hk => ?_, ?_, fun q hq => ?_, by show l.length ≤ cap; omega⟩⟩
    · have hk : k < l.length := hk
      obtain ⟨b, o, spot⟩ := a
      have hspot : spot = none := by
        obtain ⟨_, hlen, hc⟩ := World.cells?_some (h2 0 (by omega)).2
        have h3 := hc 0 h0
        rw [List.getElem?_eq_getElem (by omega)] at h3
        simpa [Addr.add] using World.cell?_spot h3
      subst hspot
      refine ⟨b, o, rfl, ?_⟩
      obtain ⟨_, hlen, hc⟩ := World.cells?_some (h2 k hk).2
      refine cellsAt_of _ _ fun j hj => ?_
      have hj : j < (cells l[k]).length := hj
      have h3 := hc j (by omega)
      rw [addr_add, addr_add] at h3
      rw [h3]; exact List.getElem?_eq_getElem hj
    · show l.length ≤ maxLen; omega
    · obtain ⟨i, hi, rfl⟩ := List.mem_iff_getElem.1 hq
      exact (h2 i hi).1⟩
theorem RowsAt.ones {α : Type} {f : α → Value} {A : Option Addr} {l : List α} (h : RowsAt 1 (fun a => [f a]) w A l) : OnesAt f w A l := fun k hk => by
  obtain ⟨b, o, h1, h2⟩ := h k hk
  exact ⟨b, o, h1, by simpa using h2.1⟩
/-- fields of a struct, from an offset on -/
structure RdF (enc : TypeId × Value → H) (P : Program) (w : World) (base : Nat) (spare : Nat → Bool) (held : Bool) (fs : List Field) (off tot : Nat) {α : Type} (cells : α → List Value) (G : α → Prop) : Prop where
  out : ∀ cs : List Value, cs.length = tot → (∀ (i : Nat) (f : Field), fs[i]? = some f → ∃ n x, DataW.trod enc P w base spare held n f.type ((cs.drop f.offset).take (P.cellsOf f.type)) = some x) → ∃ a, cs.drop off = cells a ∧ G a
theorem RdF.nil {off : Nat} : RdF enc P w base spare held [] off off (fun _ : Unit => []) (fun _ => True) := ⟨fun cs h _ => ⟨(), by rw [List.drop_eq_nil_of_le (by omega)], trivial⟩⟩
theorem RdF.cons {f : Field} {fs : List Field} {off tot sz : Nat} {α β : Type} {cA : α → List Value} {cB : β → List Value} {GA : α → Prop} {GB : β → Prop} {T : TypeId} (hA : Rd enc P w base spare held T cA GA) (hT : f.type = T) (ho : f.offset = off) (hs : P.cellsOf T = sz)
    (hB : RdF enc P w base spare held fs (off + sz) tot cB GB) : RdF enc P w base spare held (f :: fs) off tot (fun p : α × β => cA p.1 ++ cB p.2) (fun p => GA p.1 ∧ GB p.2) := ⟨fun cs hl h => by
  subst hT
  obtain ⟨n, x, hx⟩ := h 0 f rfl
  obtain ⟨a, ha, ga⟩ := hA.out _ _ _ hx
  obtain ⟨b, hb, gb⟩ := hB.out cs hl fun i f' hf => h (i + 1) f' (by simpa using hf)
  refine ⟨(a, b), ?_, ga, gb⟩
  rw [ho, hs] at ha
  simp only
  rw [← ha, ← hb, ← List.drop_drop, List.take_append_drop]⟩
theorem Rd.struct {t : TypeId} {fs : List Field} {tot : Nat} {α : Type} {cells : α → List Value} {G : α → Prop} (ht : P.underlying t = some (.struct fs.toArray)) (hs : P.cellsOf t = tot) (hF : RdF enc P w base spare held fs 0 tot cells G) : Rd enc P w base spare held t cells G := ⟨fun fuel cs x h => by
  obtain ⟨xs, n, _, _, hl, hxl, hx⟩ := DataW.trod_struct ht h
  obtain ⟨a, h1, h2⟩ := hF.out cs (by omega) fun i f hf => by
    have h3 := hx i f (by simpa using hf)
    have hi : i < fs.length := (List.getElem?_eq_some_iff.1 hf).1
    rw [List.getElem?_eq_getElem (by simp at hxl; omega)] at h3
    exact ⟨n, _, h3⟩
  exact ⟨a, by simpa using h1, h2⟩⟩
/-- an array of three elements of one cell -/
theorem Rd.array3 {t e : TypeId} {α : Type} {f : α → Value} {G : α → Prop} (ht : P.underlying t = some (.array 3 e)) (hs : P.cellsOf e = 1) (hc : P.cellsOf t = 3) (he : Rd enc P w base spare held e (fun a => [f a]) G) :
    Rd enc P w base spare held t (fun p : α × α × α => [f p.1, f p.2.1, f p.2.2]) (fun p => G p.1 ∧ G p.2.1 ∧ G p.2.2) := ⟨fun fuel cs x h => by
  obtain ⟨xs, m, _, _, hl, hxl, hx⟩ := DataW.trod_array ht h
  rw [hs] at hx
  have hl3 : cs.length = 3 := by rw [hl, hc]
  match cs, hl3 with
  | [c0, c1, c2], _ =>
    have g : ∀ i (hi : i < 3), ∃ a, (([c0, c1, c2] : List Value).drop (i * 1)).take 1 = [f a] ∧ G a := fun i hi => by
      have h3 := hx i hi
      rw [List.getElem?_eq_getElem (by omega)] at h3
      exact he.out _ _ _ h3
    obtain ⟨a0, h0, g0⟩ := g 0 (by omega)
    obtain ⟨a1, h1, g1⟩ := g 1 (by omega)
    obtain ⟨a2, h2, g2⟩ := g 2 (by omega)
    simp at h0 h1 h2
    subst h0 h1 h2
    exact ⟨(a0, a1, a2), rfl, g0, g1, g2⟩⟩
theorem okWide_array {r : Reach} {t e : TypeId} {n : Nat} {v : Value} (ht : P.underlying t = some (.array n e)) (h : Value.okWide P w r base t v) : ∃ cs, v = .agg cs ∧ cs.size = P.cellsOf t := by
  simp only [Value.okWide, ht] at h
  obtain ⟨cs, h1, h2, _⟩ := h
  exact ⟨cs, h1, h2⟩
theorem Rd.conv {t : TypeId} {α β : Type} {cells : α → List Value} {G : α → Prop} (h : Rd enc P w base spare held t cells G) (f : α → β) {cells' : β → List Value} {G' : β → Prop} (hc : ∀ a, cells a = cells' (f a)) (hG : ∀ a, G a → G' (f a)) : Rd enc P w base spare held t cells' G' :=
  ⟨fun fu cs x hx => by obtain ⟨a, h1, h2⟩ := h.out fu cs x hx; exact ⟨f a, h1.trans (hc a), hG a h2⟩⟩
/-- of an argument -/
theorem Rd.arg1 {t : TypeId} {α : Type} {f : α → Value} {G : α → Prop} {v : Value} {d : DataW H} {p : List MemPlace} (h : Rd enc P w base spare held t (fun a => [f a]) G) (hv : v.cells = #[v]) (ht : DataW.Trod enc P w base spare held t v d p) : ∃ a, v = f a ∧ G a := by
  obtain ⟨fuel, hf⟩ := ht
  obtain ⟨a, h1, h2⟩ := h.out _ _ _ hf
  rw [hv] at h1
  simp at h1
  exact ⟨a, h1, h2⟩
theorem Rd.argN {t : TypeId} {α : Type} {cells : α → List Value} {G : α → Prop} {vs : Array Value} {d : DataW H} {p : List MemPlace} (h : Rd enc P w base spare held t cells G) (ht : DataW.Trod enc P w base spare held t (.agg vs) d p) : ∃ a, vs = (cells a).toArray ∧ G a := by
  obtain ⟨fuel, hf⟩ := ht
  obtain ⟨a, h1, h2⟩ := h.out _ _ _ hf
  refine ⟨a, ?_, h2⟩
  have : vs.toList = cells a := by simpa [Value.cells] using h1
  rw [← this]
end
theorem wf_i64 {n : Int} (h : (Lit.int .i64 n).wf = true) : -9223372036854775808 ≤ n ∧ n ≤ 9223372036854775807 := by
  exact bounds_i64 h
end Go.W

/-
  Lists that are being written, element by element.
-/
set_option linter.all false
namespace Go.W
open Go.RowKit
theorem Ev.neqA {P : Program} {e : Env} {w : World} {ty t : TypeId} {x y : Operand} {t' : TypeId} {vs us : Array Value} {q : Bool} (hg : P.eqGuardType P.depth t = false) (hr : ∀ w, (Op.equal t (.agg vs) (.agg us)).run P w = .ok q w) (hx : ev e x = .agg vs) (hy : ev e y = .agg us) : Ev P e w ty (.binOp .neq t x y t') (.bool (!q)) :=
  ⟨fun w' _ o ho _ => by
    have hp : (program : Sem Program).run P w' = .ok P w' := rfl
    unfold execOp; rw [ho]; simp [hx, hy, eqGuard, binOp, hr, hp, hg]⟩
/-- the first j elements of l, the others of m -/
def mixL {α : Type} (l m : List α) (j : Nat) : List α := l.take j ++ m.drop j
theorem mixL_length {α : Type} {l m : List α} {j : Nat} (h : l.length = m.length) (hj : j ≤ l.length) : (mixL l m j).length = l.length := by simp [mixL]; omega
theorem mixL_zero {α : Type} (l m : List α) : mixL l m 0 = m := by simp [mixL]
theorem mixL_all {α : Type} {l m : List α} (h : l.length = m.length) : mixL l m l.length = l := by
  unfold mixL
  rw [List.take_length, List.drop_eq_nil_of_le (by omega), List.append_nil]
theorem mixL_get {α : Type} {l m : List α} {j : Nat} (h : l.length = m.length) (hj : j < l.length) : (mixL l m j)[j]? = m[j]? := by
  have e1 : (l.take j).length = j := by simp; omega
  unfold mixL
  rw [List.getElem?_append_right (by omega), e1]
  simp
theorem mixL_set {α : Type} {l m : List α} {j : Nat} (h : l.length = m.length) (hj : j < l.length) : (mixL l m j).set j (l[j]) = mixL l m (j + 1) := by
  have e1 : (l.take j).length = j := by simp; omega
  unfold mixL
  rw [List.set_append_right _ _ (by omega), e1, Nat.sub_self, List.drop_eq_getElem_cons (show j < m.length by omega), List.set_cons_zero, ← List.take_append_getElem hj, List.append_assoc]
  rfl
theorem OnesAt.atK {α : Type} {enc : α → Value} {w : World} {b o : Nat} {l : List α} (h : OnesAt enc w (some ⟨b, o, none⟩) l) {k : Nat} (hk : k < l.length) : w.cell? ⟨b, o + k, none⟩ = some (enc (l[k]'hk)) := by
  obtain ⟨b', o', h1, h2⟩ := h k hk
  cases h1; exact h2
theorem OnesAt.cells {α : Type} {enc : α → Value} {w : World} {b : Nat} : ∀ {o : Nat} {l : List α}, OnesAt enc w (some ⟨b, o, none⟩) l → cellsAt w b o (l.map enc)
  | _, [], _ => trivial
  | o, a :: l, h => ⟨h.atK (k := 0) (Nat.zero_lt_succ _), OnesAt.cells fun k hk => ⟨b, o + 1, rfl, by
      have := h.atK (k := k + 1) (by simpa using hk)
      rw [show o + 1 + k = o + (k + 1) by omega]; exact this⟩⟩
theorem Ev.convI {P : Program} {e : Env} {w : World} {ty s d : TypeId} {x : Operand} {k' : IntKind} {a : Int} (hs : ∀ w, (underlying s).run P w = .ok (.int k') w) (hd : ∀ w, (underlying d).run P w = .ok (.int .i64) w) (hx : ev e x = .int k' a) (h : fits a) : Ev P e w ty (.convert s d x) (.int .i64 a) := by
  have := Ev.conv (P := P) (w := w) (ty := ty) hs hd hx
  rwa [wrap_fits h] at this
/-- a store into a list that begins a block -/
theorem putL_pre {α : Type} {enc : α → Value} (l : List α) (post : List Value) (k : Nat) (x : α) (hk : k < l.length) : putL (l.map enc ++ post) k [enc x] = (l.set k x).map enc ++ post := by
  simp only [putL]
  rw [List.set_append_left _ _ (by simpa using hk), List.map_set]
theorem preCell {α : Type} {enc : α → Value} {w0 w : World} {S : List Nat} {L : List Blk} (H : SH w0 S w L) (i : Nat) {g : Nat} {T : TypeId} {l : List α} {post : List Value} (hi : L[i]? = some ⟨g, T, l.map enc ++ post⟩) {k : Nat} (hk : k < l.length) : w.cell? ⟨g, k, none⟩ = some (enc l[k]) :=
  H.ldL i hi k (by
    show (l.map enc ++ post)[k]? = _
    rw [List.getElem?_append_left (by simpa using hk), List.getElem?_map, List.getElem?_eq_getElem hk]; rfl)
end Go.W

/-
  Guards within guards.
-/
set_option linter.all false
namespace Go.W
open Go.RowKit
/-- the guard's slot says 'want' just where q -/
structure GB (v : Value) (want q : Bool) : Prop where
  out : v = .bool want ↔ q = true
theorem GB.b {v : Value} {b want : Bool} (h : v = .bool b) : GB v want (b == want) := ⟨by subst h; cases b <;> cases want <;> simp⟩
theorem GB.g {v : Value} {b1 w1 b2 want : Bool} (h : v = gv b1 w1 (.bool b2)) : GB v want ((b1 == w1) && (b2 == want)) := ⟨by
  subst h
  by_cases h1 : b1 = w1
  · subst h1; cases b2 <;> cases want <;> simp [gv]
  · simp [gv, h1, undef]⟩
section
variable {P : Program} {N : Nat} {m : Md} {ops : Array Oper} {K : Env → World → Prop} {e : Env} {w : World} {rest : List Oper} {o : Oper}
theorem yielded_gb {a : Act} {j dj : Nat} {want q : Bool} (hj : ops[j]?.bind (·.dst) = some dj) (h : GB (envOf a dj) want q) : (yielded ops a.tmps j == some want) = q := by
  have h2 := h.out
  unfold yielded
  simp only [envOf, undef] at h2
  rw [hj]
  simp only [Option.bind_some]
  cases ht : a.tmps[dj]? with
  | none =>
    simp only [Array.getD_eq_getD_getElem?, ht, Option.getD_none] at h2
    cases q with
    | true => simp at h2
    | false => rfl
  | some u =>
    simp only [Array.getD_eq_getD_getElem?, ht, Option.getD_some] at h2
    cases u with
    | bool x =>
      cases q with
      | true =>
        have := h2.2 rfl
        cases this; simp
      | false =>
        have hne : x ≠ want := fun e => by subst e; have := h2.1 rfl; cases this
        simp [hne]
    | _ =>
      cases q with
      | true => have := h2.2 rfl; cases this
      | false => rfl
theorem OPS.gvalN {d j dj : Nat} {want q : Bool} {v : Value} (hg : o.guard = some (j, want)) (hj : ops[j]?.bind (·.dst) = some dj) (hb : GB (e dj) want q) (hd : o.dst = some d) (hN : Nat.blt d N = true)
    (hE : q = true → Ev P e w o.type o.op v) (h : OPS P N m ops K rest (upd e d (gv q true v)) w) : OPS P N m ops K (o :: rest) e w :=
  ⟨fun a h1 h2 h3 => by
    have hn := h.run (a.put (some d) (gv q true v)) (by rw [envOf_put _ h2 hN, h1]) (by rw [size_put]; exact h2) (by rw [defers_put]; exact h3)
    have hy := yielded_gb (a := a) (want := want) (q := q) hj (h1 ▸ hb)
    have hwt : Region.wanted o (yielded ops a.tmps) = q := by simp only [Region.wanted, hg]; exact hy
    cases q with
    | true =>
      have hr := fun w' hb => (hE rfl).run w' hb o rfl rfl
      rw [← h1, ← eval_eq] at hr
      have hgv : gv true true v = v := by simp [gv]
      rw [hgv] at hn
      cases m with
      | plain =>
        simp only at hn ⊢
        unfold wpList
        rw [if_pos hwt]
        refine .inl ?_
        unfold Oper.wp
        rw [hr w (Below.refl _ _)]
        simp only [Oper.upon, hd]
        exact hn
      | still =>
        simp only at hn ⊢
        unfold wpStill
        rw [if_pos hwt]
        unfold Oper.still
        rw [hr w (Below.refl _ _)]
        simp only [Oper.stillUpon, hd]
        exact ⟨trivial, hn⟩
      | quiet =>
        simp only at hn ⊢
        unfold wpQuiet
        rw [if_pos hwt]
        refine ⟨v, fun w' hb => ?_, by rw [hd]; exact hn⟩
        unfold Oper.quietAt
        rw [hr w' hb]
        exact ⟨rfl, rfl⟩
    | false =>
      have hgv : gv false true v = undef := by simp [gv]
      rw [hgv] at hn
      cases m with
      | plain => simp only at hn ⊢; unfold wpList; rw [hwt, hd]; exact hn
      | still => simp only at hn ⊢; unfold wpStill; rw [hwt, hd]; exact hn
      | quiet => simp only at hn ⊢; unfold wpQuiet; rw [hwt, hd]; exact hn⟩
/-- a guarded call whose result is not known beforehand -/
theorem OPS.gcallN {α : Type} [Inhabited α] (val : α → Value) (R : α → World → Prop) {d j dj : Nat} {want q : Bool} {f : FuncId} {args : List Value}
    (hC : q = true → Calls P f args.toArray w fun e' w' => ∃ x, e' = .returned (val x) ∧ R x w' ∧ Below w.heap.size w w') (hg : o.guard = some (j, want)) (hj : ops[j]?.bind (·.dst) = some dj) (hb : GB (e dj) want q) (hd : o.dst = some d) (hN : Nat.blt d N = true)
    (hE : q = true → EvC P e o.op f args)
    (h : ∀ x w', (q = true → R x w') → Below w.heap.size w w' → OPS P N .plain ops K rest (upd e d (gv q true (val x))) w') : OPS P N .plain ops K (o :: rest) e w :=
  ⟨fun a h1 h2 h3 => by
    have hy := yielded_gb (a := a) (want := want) (q := q) hj (h1 ▸ hb)
    have hwt : Region.wanted o (yielded ops a.tmps) = q := by simp only [Region.wanted, hg]; exact hy
    simp only
    unfold wpList
    cases q with
    | true =>
      rw [if_pos hwt]
      refine .inl ?_
      unfold Oper.wp
      have hr := (hE rfl).run w o rfl
      rw [← h1, ← eval_eq] at hr
      rw [hr]
      refine (hC rfl).mono fun e' w' ⟨x, he, hR, hb2⟩ => ?_
      subst he
      have hn := (h x w' (fun _ => hR) hb2).run (a.put (some d) (gv true true (val x))) (by rw [envOf_put _ h2 hN, h1]) (by rw [size_put]; exact h2) (by rw [defers_put]; exact h3)
      have hgv : gv true true (val x) = val x := by simp [gv]
      rw [hgv] at hn
      rw [hd]
      exact hn
    | false =>
      have hn := (h default w (fun hx => by cases hx) (Below.refl _ _)).run (a.put (some d) (gv false true (val default))) (by rw [envOf_put _ h2 hN, h1]) (by rw [size_put]; exact h2) (by rw [defers_put]; exact h3)
      have hgv : gv false true (val default) = undef := by simp [gv]
      rw [hgv] at hn
      rw [hwt, hd]; exact hn⟩
end
section
variable {P : Program} {e : Env} {w : World} {ty : TypeId} {x y c : Operand}
theorem Ev.pickAnd2 {q b u : Bool} (hg : q = true) (hc : ev e c = .bool b) (hx : ev e x = gv (q && (b == true)) true (.bool u)) (hy : ev e y = .bool false) : Ev P e w ty (.pick c x y) (.bool (b && u)) := by
  have := Ev.pick (P := P) (w := w) (ty := ty) (x := x) (y := y) hc
  cases b <;> simpa [hx, hy, gv, hg] using this
theorem Ev.pickOr2 {q b u : Bool} (hg : q = true) (hc : ev e c = .bool b) (hx : ev e x = .bool true) (hy : ev e y = gv (q && (b == false)) true (.bool u)) : Ev P e w ty (.pick c x y) (.bool (b || u)) := by
  have := Ev.pick (P := P) (w := w) (ty := ty) (x := x) (y := y) hc
  cases b <;> simpa [hx, hy, gv, hg] using this
end
section
variable {P : Program} {N : Nat} {Kn : Env → World → Prop} {Kx : Nat → Env → World → Prop} {Kr : Env → World → Prop} {e : Env} {w : World}
/-- what holds behind a piece of code, however it went -/
theorem WP.cut {c : Code} (M : List Nat) (I : Env → World → Prop) (h : WP P N c (fun e' w' => Agree M e' e ∧ I e' w') Kx Kr e w) (hk : ∀ u w', I u w' → Kn (W.mix M u e) w') : WP P N c Kn Kx Kr e w :=
  WP.mono h (fun e' w' hh => by rw [hh.1.eq]; exact hk e' w' hh.2) (fun _ _ _ h => h) (fun _ _ h => h)
end
theorem beqT {b want : Bool} (h : b = want) : (b == want) = true := by simp [h]
end Go.W

/-
  Pointers and functions compared with nil, slice expressions, clear.
-/
set_option linter.all false
namespace Go.W
open Go.RowKit
section
variable {P : Program} {e : Env} {w : World} {ty t : TypeId} {x y : Operand}
theorem Ev.eqlPn {t' : TypeId} {el : TypeId} {a : Option Addr} (hU : ∀ w, (underlying t).run P w = .ok (.pointer el) w) (hx : ev e x = .pointer a) (hy : ev e y = .pointer none) : Ev P e w ty (.binOp .eql t x y t') (.bool a.isNone) :=
  ⟨fun w' _ o ho _ => by
    have hq : ∀ w, (Op.equal t (.pointer a) (.pointer none)).run P w = .ok a.isNone w := by
      intro w
      unfold Op.equal
      rw [show Op.maxDepth = 9999 + 1 from rfl, Op.equalIn]
      cases a <;> simp [hU]
    unfold execOp; rw [ho]; simp [hx, hy, eqGuard, binOp, hq]⟩
theorem Ev.eqlFn {t' : TypeId} {ps rs : Array TypeId} {v : Bool} {f : Fn} {fs cs : Array Value} (hU : ∀ w, (underlying t).run P w = .ok (.func ps rs v) w) (hx : ev e x = .func f fs cs) (hy : ev e y = .nilFunc) : Ev P e w ty (.binOp .eql t x y t') (.bool false) :=
  ⟨fun w' _ o ho _ => by
    have hq : ∀ w, (Op.equal t (.func f fs cs) .nilFunc).run P w = .ok false w := by
      intro w
      unfold Op.equal
      rw [show Op.maxDepth = 9999 + 1 from rfl, Op.equalIn]
      simp [hU]
    unfold execOp; rw [ho]; simp [hx, hy, eqGuard, binOp, hq]⟩
/-- x[j:] of a slice that holds more than j -/
theorem Ev.sliceFrom2 {i : Operand} {el n cap j sz b o : Nat} {k : IntKind} {ii : Int} (hU : ∀ w, (underlying t).run P w = .ok (.slice el) w) (hs : ∀ w, (Go.sizeOf el).run P w = .ok sz w)
    (hx : ev e x = .slice (some ⟨b, o, none⟩) n cap) (hi : ev e i = .int k ii) (hj : ii = (j : Int)) (hle : j ≤ n) (hlt : j < cap) : Ev P e w ty (.slice t x (some i) none none) (.slice (some ⟨b, o + j * sz, none⟩) (n - j) (cap - j)) := by
  have h := Ev.sliceFrom (P := P) (w := w) (ty := ty) hU hs hx hi hj hle
  rw [if_neg (by omega), Option.map_some, addr_add] at h
  exact h
end
/-- some of the first blocks, in another order; those behind stay -/
theorem SH.reidxT {w0 w : World} {S : List Nat} {L L' Lo : List Blk} (H : SH w0 S w (L ++ Lo)) (idx : List Nat) (hn : idx.Nodup) (hi : idx.map (fun i => L[i]?) = L'.map some) : SH w0 S w (L' ++ Lo) := by
  have h1 := (H.drop (List.sublist_append_left L Lo)).reidx idx hn hi
  have h2 := H.drop (List.sublist_append_right L Lo)
  have hmem : ∀ b ∈ L', b ∈ L := by
    intro b hb
    have h3 : some b ∈ idx.map (fun i => L[i]?) := by rw [hi]; exact List.mem_map_of_mem hb
    obtain ⟨i, _, h4⟩ := List.mem_map.1 h3
    exact List.mem_of_getElem? h4
  refine ⟨H.os, H.tape, H.output, H.size, H.low, fun b hb => ?_, fun b hb => ?_, ?_⟩
  · rcases List.mem_append.1 hb with hb | hb
    · exact h1.own b hb
    · exact h2.own b hb
  · rcases List.mem_append.1 hb with hb | hb
    · exact h1.may b hb
    · exact h2.may b hb
  · have hd := H.nodup
    rw [List.map_append, List.nodup_append] at hd ⊢
    refine ⟨h1.nodup, h2.nodup, fun a ha b hb => ?_⟩
    obtain ⟨c, hc, rfl⟩ := List.mem_map.1 ha
    exact hd.2.2 c.g (List.mem_map_of_mem (hmem c hc)) b hb
theorem upd_comm {e : Env} {a b : Nat} {x y : Value} (h : Nat.beq a b = false) : upd (upd e a x) b y = upd (upd e b y) a x := by
  have hne : a ≠ b := fun he => by subst he; rw [Nat.beq_refl] at h; cases h
  funext j
  simp only [upd]
  cases h1 : Nat.beq j b <;> cases h2 : Nat.beq j a <;> try rfl
  exact absurd ((Nat.eq_of_beq_eq_true h2).symm.trans (Nat.eq_of_beq_eq_true h1)) hne
theorem OPH.named {P : Program} {N : Nat} {ops : Array Oper} {K : Env → World → Prop} {w0 w : World} {S : List Nat} {L : List Blk} {f f' : Nat} {ls ls' : Array Bool} {e : Env} (hf : f = f') (hl : ls = ls')
    (h : ∀ Q : Nat → Array Bool → Env → World → Prop, Q = OPH P N ops K w0 S L → Q f' ls' e w) : OPH P N ops K w0 S L f ls e w := by subst hf hl; exact h _ rfl
theorem qcast {Q : Nat → Array Bool → Env → World → Prop} {f : Nat} {ls ls' : Array Bool} {e : Env} {w : World} (hl : ls = ls') (h : Q f ls' e w) : Q f ls e w := hl ▸ h
section
variable {P : Program} {N : Nat} {ops : Array Oper} {K : Env → World → Prop} {e : Env} {w w0 : World} {S : List Nat} {L : List Blk} {rest : List Oper} {o : Oper} {t : TypeId} {x y : Operand}
/-- an operation whose value is not kept -/
theorem OPS.actv {v : Value} {w' : World} (hg : o.guard = none) (hd : o.dst = none) (hr : (execOp (ev e) o).run P w = .ok (.value v) w')
    (h : OPS P N .plain ops K rest e w') : OPS P N .plain ops K (o :: rest) e w :=
  ⟨fun a h1 h2 h3 => by
    have hn := h.run a h1 h2 h3
    rw [← h1, ← eval_eq] at hr
    simp only at hn ⊢
    unfold wpList
    rw [if_pos (wanted_none hg _)]
    refine .inl ?_
    unfold Oper.wp
    rw [hr]
    simp only [Oper.upon, hd, Act.put]
    exact hn⟩
/-- clear(s) -/
theorem OPS.clear {el n c : Nat} {z : Value} {b : Blk} {zs : List Value} (i k : Nat) (hg : o.guard = none) (hd : o.dst = none)
    (hop : o.op = .call { callee := .builtin .clear, args := #[x], argTypes := #[t] }) (hU : ∀ w, (underlying t).run P w = .ok (.slice el) w) (hz : ∀ w, (zeroValue el).run P w = .ok z w) (hzs : z.cells = zs.toArray) (hz0 : 0 < zs.length)
    (h1 : (zs.all (·.oneCell')) = true) (hx : ev e x = .slice (some ⟨b.g, k, none⟩) n c) (hn : 0 < n) (H : SH w0 S w L) (hi : L[i]? = some b) (hk : k + n * zs.length ≤ b.cs.length)
    (h : ∀ w', SH w0 S w' (L.set i ⟨b.g, b.T, putL b.cs k (mkL n zs)⟩) → OPS P N .plain ops K rest e w') : OPS P N .plain ops K (o :: rest) e w := by
  have hm1 : ((mkL n zs).all (·.oneCell')) = true := by
    rw [List.all_eq_true] at h1 ⊢
    intro v hv
    rw [mkL, List.mem_flatten] at hv
    obtain ⟨l, hl, hv⟩ := hv
    rw [List.eq_of_mem_replicate hl] at hv
    exact h1 v hv
  obtain ⟨w', hr, H'⟩ := store_run (P := P) (mkL n zs) w L b k 0 H hi (by rw [mkL_length]; omega) hm1
  refine OPS.actv (v := .tuple #[]) (w' := w') hg hd ?_ (h w' H')
  have hzc : (Builtin.zeroCells z.cells n).toList = mkL n zs := by
    rw [hzs]
    have := mkCells n hz0
    simp only [Builtin.zeroCells] at *
    exact congrArg Array.toList this
  obtain ⟨m, rfl⟩ : ∃ m, n = m + 1 := ⟨n - 1, by omega⟩
  unfold execOp; rw [hop]
  simp [resolve, invoke, builtin, hx, Builtin.clear_, hU, hz, hzc, hr]
end
end Go.W

/-
  Engine: guarded operations whose guard is known, in held regions and in whatever mode.
-/
set_option linter.all false
namespace Go.W
open Go.RowKit
section
variable {P : Program} {N : Nat} {m : Md} {ops : Array Oper} {K : Env → World → Prop} {e : Env} {w w0 : World} {S : List Nat} {L : List Blk} {fuel : Nat} {listed : Array Bool} {rest : List Oper} {o : Oper}
theorem WP.scope {c : Code} {Kn : Env → World → Prop} {Kx : Nat → Env → World → Prop} {Kr : Env → World → Prop} (h : WP P N c Kn Kx Kr e w) : WP P N (.scope c) Kn Kx Kr e w :=
  ⟨fun a h1 h2 h3 => wp_scope_straight (Code.wp_mono (fun ex a w h => by cases ex <;> simp only [post, Exit.noGoto] at h ⊢ <;> try exact h) (h.run a h1 h2 h3))⟩
/-- a guarded operation whose guard does not say 'want' -/
theorem OPS.gnoN {d : Option Nat} {j dj : Nat} {want : Bool} (hg : o.guard = some (j, want)) (hj : ops[j]?.bind (·.dst) = some dj) (hb : GB (e dj) want false) (hd : o.dst = d) (hN : (d.all fun d => Nat.blt d N) = true)
    (h : OPS P N m ops K rest (updo e d undef) w) : OPS P N m ops K (o :: rest) e w :=
  ⟨fun a h1 h2 h3 => by
    have hy := yielded_gb (a := a) (want := want) (q := false) hj (h1 ▸ hb)
    have hwt : Region.wanted o (yielded ops a.tmps) = false := by simp only [Region.wanted, hg]; exact hy
    have hn := h.run (a.put d undef) (by rw [envOf_puto d _ h2 hN, h1]) (by rw [size_put]; exact h2) (by rw [defers_put]; exact h3)
    cases m with
    | plain => simp only at hn ⊢; unfold wpList; rw [hwt, hd]; exact hn
    | still => simp only at hn ⊢; unfold wpStill; rw [hwt, hd]; exact hn
    | quiet => simp only at hn ⊢; unfold wpQuiet; rw [hwt, hd]; exact hn⟩
/-- a guarded operation of a held region, whose guard says 'want' -/
theorem OPH.takeY (i : Nat) {oi : Oper} {d j dj : Nat} {want : Bool} {v : Value} {f : Nat} (hi : ops[i]? = some oi) (hg : oi.guard = some (j, want)) (hj : ops[j]?.bind (·.dst) = some dj) (hb : e dj = .bool want) (hd : oi.dst = some d) (hN : Nat.blt d N = true) (hs : Region.noSelect ops = true) (hf : Region.free .any ops listed i = true)
    (hr : (Region.ready .any ops listed).contains i = true) (hfu : fuel = f + 1) (H : SH w0 S w L) (hE : ∀ w', SH w0 S w' L → Ev P e w' oi.type oi.op v)
    (h : OPH P N ops K w0 S L f (listed.setIfInBounds i true) (upd e d v) w) : OPH P N ops K w0 S L fuel listed e w :=
  ⟨fun a h1 h2 h3 => by
    subst hfu
    have hy := yielded_of (a := a) hj (h1 ▸ hb)
    have hwt : Region.wanted oi (yielded ops a.tmps) = true := by simp [Region.wanted, hg, hy]
    have hn := h.run (a.put (some d) v) (by rw [envOf_put v h2 hN, h1]) (by rw [size_put]; exact h2) (by rw [defers_put]; exact h3)
    refine wpAnyH_take hi hs hf hr (fun c a w hh => by simp only [post] at hh) (v := v) (.inl ⟨hwt, fun w' hw' => ?_⟩) H (by rw [hd]; exact hn)
    have := (hE w' hw').run w' (Below.refl _ _) oi rfl rfl
    rw [eval_eq, h1]; exact this⟩
end
section
variable {P : Program} {e : Env} {w : World} {ty t : TypeId} {x y : Operand}
/-- a slice compared with nil -/
theorem Ev.eqlSn {t' : TypeId} {el : TypeId} {a : Option Addr} {n c n' c' : Nat} (hU : ∀ w, (underlying t).run P w = .ok (.slice el) w) (hx : ev e x = .slice a n c) (hy : ev e y = .slice none n' c') : Ev P e w ty (.binOp .eql t x y t') (.bool a.isNone) :=
  ⟨fun w' _ o ho _ => by
    have hq : ∀ w, (Op.equal t (.slice a n c) (.slice none n' c')).run P w = .ok a.isNone w := by
      intro w
      unfold Op.equal
      rw [show Op.maxDepth = 9999 + 1 from rfl, Op.equalIn]
      cases a <;> simp [hU]
    unfold execOp; rw [ho]; simp [hx, hy, eqGuard, binOp, hq]⟩
end
end Go.W

/-
  Plain law of a binary heap: what a step upwards and a step downwards keep.
-/
set_option linter.all false
namespace Go.W

section
variable {α : Type} [Inhabited α]
def swapL (h : List α) (i k : Nat) : List α := (h.set i (h.getD k default)).set k (h.getD i default)
theorem swapL_length (h : List α) (i k : Nat) : (swapL h i k).length = h.length := by simp [swapL]
theorem swapL_perm {h : List α} {i k : Nat} (hi : i < h.length) (hk : k < h.length) : (swapL h i k).Perm h := by
  have : swapL h i k = (h.set i h[k]).set k h[i] := by simp [swapL, hi, hk]
  rw [this]
  exact List.set_set_perm hi hk
theorem swapL_at {h : List α} {i k j : Nat} (hi : i < h.length) (hk : k < h.length) : (swapL h i k).getD j default = if j = k then h.getD i default else if j = i then h.getD k default else h.getD j default := by
  simp only [swapL, List.getD_eq_getElem?_getD, List.getElem?_set, List.length_set]
  by_cases h1 : j = k
  · subst h1; simp [hk]
  · by_cases h2 : j = i
    · subst h2; simp [Ne.symm h1, h1, hi]
    · simp [Ne.symm h1, Ne.symm h2, h1, h2]
/-- a strict weak order -/
structure LtOk (lt : α → α → Bool) : Prop where
  asy : ∀ x y, lt x y = true → lt y x = false
  tra : ∀ x y z, lt y x = false → lt z y = false → lt z x = false
variable {lt : α → α → Bool}
abbrev leA (lt : α → α → Bool) (h : List α) (i k : Nat) : Prop := lt (h.getD k default) (h.getD i default) = false
theorem LtOk.refl (o : LtOk lt) (x : α) : lt x x = false := by
  cases h : lt x x with
  | false => rfl
  | true => have := o.asy x x h; rw [h] at this; cases this
/-- each entry but the first comes not before its parent -/
def HeapOk (lt : α → α → Bool) (h : List α) : Prop := ∀ k, 0 < k → k < h.length → leA lt h ((k - 1) / 2) k
structure UpOk (lt : α → α → Bool) (h : List α) (i : Nat) : Prop where
  lt' : i < h.length
  ord : ∀ k, 0 < k → k < h.length → k ≠ i → leA lt h ((k - 1) / 2) k
  skip : ∀ k, 0 < k → k < h.length → (k - 1) / 2 = i → 0 < i → leA lt h ((i - 1) / 2) k
structure DownOk (lt : α → α → Bool) (h : List α) (i : Nat) : Prop where
  ord : ∀ k, 0 < k → k < h.length → (k - 1) / 2 ≠ i → leA lt h ((k - 1) / 2) k
  skip : ∀ k, 0 < k → k < h.length → (k - 1) / 2 = i → 0 < i → leA lt h ((i - 1) / 2) k
theorem HeapOk.nil : HeapOk lt [] := fun k _ h => by simp at h
theorem getD_append_left {l m : List α} {k : Nat} (h : k < l.length) : (l ++ m).getD k default = l.getD k default := by
  simp [List.getElem?_append_left h]
theorem UpOk.start {h : List α} (hh : HeapOk lt h) (x : α) : UpOk lt (h ++ [x]) h.length := by
  refine ⟨by simp, fun k h0 h1 h2 => ?_, fun k h0 h1 h2 h3 => ?_⟩
  · simp only [List.length_append, List.length_cons, List.length_nil] at h1
    have hk : k < h.length := by omega
    unfold leA
    rw [getD_append_left hk, getD_append_left (by omega)]
    exact hh k h0 hk
  · simp only [List.length_append, List.length_cons, List.length_nil] at h1; omega
theorem UpOk.done {h : List α} {i : Nat} (hu : UpOk lt h i) (hd : i = 0 ∨ leA lt h ((i - 1) / 2) i) : HeapOk lt h := fun k h0 h1 => by
  by_cases hk : k = i
  · subst hk; rcases hd with rfl | hd
    · omega
    · exact hd
  · exact hu.ord k h0 h1 hk
theorem UpOk.step (o : LtOk lt) {h : List α} {i : Nat} (hu : UpOk lt h i) (h0 : 0 < i) (hb : lt (h.getD i default) (h.getD ((i - 1) / 2) default) = true) : UpOk lt (swapL h i ((i - 1) / 2)) ((i - 1) / 2) := by
  have hi := hu.lt'
  generalize hp : (i - 1) / 2 = p at *
  have hpl : p < h.length := by omega
  have hpi : p < i := by omega
  refine ⟨by rw [swapL_length]; exact hpl, fun k k0 k1 k2 => ?_, fun k k0 k1 k2 p0 => ?_⟩
  · rw [swapL_length] at k1
    unfold leA
    rw [swapL_at hi hpl, swapL_at hi hpl, if_neg k2]
    by_cases hki : k = i
    · subst hki
      rw [if_pos rfl, if_pos hp]
      exact o.asy _ _ hb
    · rw [if_neg hki]
      by_cases q1 : (k - 1) / 2 = p
      · rw [if_pos q1]
        have := hu.ord k k0 k1 hki
        unfold leA at this
        rw [q1] at this
        exact o.tra _ _ _ (o.asy _ _ hb) this
      · rw [if_neg q1]
        by_cases q2 : (k - 1) / 2 = i
        · rw [if_pos q2]
          have := hu.skip k k0 k1 q2 h0
          unfold leA at this
          rw [hp] at this
          exact this
        · rw [if_neg q2]
          exact hu.ord k k0 k1 hki
  · rw [swapL_length] at k1
    unfold leA
    have hpp : (p - 1) / 2 ≠ p := by omega
    have hppi : (p - 1) / 2 ≠ i := by omega
    rw [swapL_at hi hpl, swapL_at hi hpl, if_neg hpp, if_neg hppi, if_neg (show k ≠ p by omega)]
    have g1 := hu.ord p p0 hpl (by omega)
    by_cases hki : k = i
    · rw [if_pos hki]; exact g1
    · rw [if_neg hki]
      have g2 := hu.ord k k0 k1 hki
      unfold leA at g2
      rw [k2] at g2
      exact o.tra _ _ _ g1 g2
theorem DownOk.done {h : List α} {i : Nat} (hd : DownOk lt h i) (hc : ∀ k, 0 < k → k < h.length → (k - 1) / 2 = i → leA lt h i k) : HeapOk lt h := fun k h0 h1 => by
  by_cases hk : (k - 1) / 2 = i
  · rw [hk]; exact hc k h0 h1 hk
  · exact hd.ord k h0 h1 hk
theorem DownOk.step {h : List α} {i f : Nat} (hd : DownOk lt h i) (hi : i < h.length) (hf : f < h.length) (hf0 : 0 < f) (hp : (f - 1) / 2 = i) (hl : leA lt h f i)
    (hc : ∀ k, 0 < k → k < h.length → (k - 1) / 2 = i → leA lt h f k) : DownOk lt (swapL h i f) f := by
  have hfi : i < f := by omega
  refine ⟨fun k k0 k1 k2 => ?_, fun k k0 k1 k2 _ => ?_⟩
  · rw [swapL_length] at k1
    unfold leA
    rw [swapL_at hi hf, swapL_at hi hf, if_neg k2]
    by_cases q : (k - 1) / 2 = i
    · rw [if_pos q]
      by_cases hkf : k = f
      · rw [if_pos hkf]; exact hl
      · rw [if_neg hkf, if_neg (show k ≠ i by omega)]
        exact hc k k0 k1 q
    · rw [if_neg q, if_neg (show k ≠ f by intro he; subst he; exact q hp)]
      by_cases hki : k = i
      · subst hki
        rw [if_pos rfl]
        exact hd.skip f hf0 hf hp k0
      · rw [if_neg hki]; exact hd.ord k k0 k1 q
  · rw [swapL_length] at k1
    unfold leA
    rw [swapL_at hi hf, swapL_at hi hf, hp, if_neg (show i ≠ f by omega), if_pos rfl, if_neg (show k ≠ f by omega), if_neg (show k ≠ i by omega)]
    have := hd.ord k k0 k1 (by omega)
    unfold leA at this
    rw [k2] at this; exact this
theorem HeapOk.root (o : LtOk lt) {h : List α} (hh : HeapOk lt h) : ∀ k, k < h.length → leA lt h 0 k := by
  intro k
  induction k using Nat.strongRecOn with
  | _ k ih =>
    intro hk
    by_cases h0 : k = 0
    · subst h0; exact o.refl _
    · exact o.tra _ _ _ (ih ((k - 1) / 2) (by omega) (by omega)) (hh k (by omega) hk)
theorem HeapOk.root_le (o : LtOk lt) {x : α} {t : List α} (hh : HeapOk lt (x :: t)) : ∀ y ∈ x :: t, lt y x = false := by
  intro y hy
  obtain ⟨k, hk, rfl⟩ := List.mem_iff_getElem.1 hy
  have h2 : lt ((x :: t).getD k default) ((x :: t).getD 0 default) = false := hh.root o k hk
  have e1 : (x :: t).getD k default = (x :: t)[k] := by rw [List.getD_eq_getElem?_getD, List.getElem?_eq_getElem hk]; rfl
  rw [e1] at h2
  exact h2
/-- the heap without its first entry, the last one in its place -/
def popL (h : List α) : List α := (swapL h 0 (h.length - 1)).take (h.length - 1)
theorem popL_length (h : List α) : (popL h).length = h.length - 1 := by simp [popL, swapL_length]
theorem popL_at {h : List α} {j : Nat} (hj : j < h.length - 1) : (popL h).getD j default = if j = 0 then h.getD (h.length - 1) default else h.getD j default := by
  have e : (popL h).getD j default = (swapL h 0 (h.length - 1)).getD j default := by
    simp [popL, List.getElem?_take, hj]
  rw [e, swapL_at (by omega) (by omega), if_neg (by omega)]
theorem popL_perm {x : α} {t : List α} : (x :: popL (x :: t)).Perm (x :: t) := by
  have h1 := swapL_perm (h := x :: t) (i := 0) (k := t.length) (by simp) (by simp)
  refine List.Perm.trans ?_ h1
  have hlen : (swapL (x :: t) 0 t.length).length = t.length + 1 := by rw [swapL_length]; rfl
  have hlast : (swapL (x :: t) 0 t.length)[t.length]'(by omega) = x := by
    have := swapL_at (h := x :: t) (i := 0) (k := t.length) (j := t.length) (by simp) (by simp)
    simpa [hlen] using this
  have e : swapL (x :: t) 0 t.length = popL (x :: t) ++ [x] := by
    have h2 : swapL (x :: t) 0 t.length = (swapL (x :: t) 0 t.length).take t.length ++ (swapL (x :: t) 0 t.length).drop t.length := (List.take_append_drop _ _).symm
    rw [List.drop_eq_getElem_cons (by omega), hlast, List.drop_eq_nil_of_le (by omega)] at h2
    exact h2
  rw [e]
  exact (List.perm_append_comm (l₁ := [x])).trans (List.Perm.refl _) 
theorem DownOk.start {h : List α} (hh : HeapOk lt h) : DownOk lt (popL h) 0 := by
  refine ⟨fun k k0 k1 k2 => ?_, fun k _ _ _ h0 => by omega⟩
  rw [popL_length] at k1
  unfold leA
  rw [popL_at k1, popL_at (by omega), if_neg k2, if_neg (by omega)]
  exact hh k k0 (by omega)
/-- f is the first of the places i and those of its children that are less than k -/
structure FirstOk (lt : α → α → Bool) (h : List α) (i k f : Nat) : Prop where
  place : f = i ∨ (0 < f ∧ (f - 1) / 2 = i ∧ f < h.length)
  le : leA lt h f i
  all : ∀ j, 0 < j → j < h.length → (j - 1) / 2 = i → j < k → leA lt h f j
theorem FirstOk.start (o : LtOk lt) (h : List α) (i : Nat) : FirstOk lt h i (2 * i + 1) i := ⟨.inl rfl, o.refl _, fun j h0 _ h1 h2 => by omega⟩
theorem FirstOk.take (o : LtOk lt) {h : List α} {i k f : Nat} (hf : FirstOk lt h i k f) (h0 : 0 < k) (hk : k < h.length) (hp : (k - 1) / 2 = i) (hb : lt (h.getD k default) (h.getD f default) = true) : FirstOk lt h i (k + 1) k := by
  have hkf : leA lt h k f := o.asy _ _ hb
  refine ⟨.inr ⟨h0, hp, hk⟩, o.tra _ _ _ hkf hf.le, fun j j0 j1 j2 j3 => ?_⟩
  by_cases hj : j = k
  · subst hj; exact o.refl _
  · exact o.tra _ _ _ hkf (hf.all j j0 j1 j2 (by omega))
theorem FirstOk.keep {h : List α} {i k f : Nat} (hf : FirstOk lt h i k f) (hb : lt (h.getD k default) (h.getD f default) = false) : FirstOk lt h i (k + 1) f := by
  refine ⟨hf.place, hf.le, fun j j0 j1 j2 j3 => ?_⟩
  by_cases hj : j = k
  · subst hj; exact hb
  · exact hf.all j j0 j1 j2 (by omega)
theorem FirstOk.done {h : List α} {i k f : Nat} (hf : FirstOk lt h i k f) (hk : 2 * i + 2 < k ∨ h.length ≤ k) : ∀ j, 0 < j → j < h.length → (j - 1) / 2 = i → leA lt h f j := fun j j0 j1 j2 => hf.all j j0 j1 j2 (by omega)
end
end Go.W

/-
  Walks (the kit's own words): slices.Values, slices.AppendSeq, slices.Collect.
-/
set_option linter.all false
namespace Go.Proofs.Ytfddebpeiilohaa.It
open Go Go.RowKit Go.Shelf Go.Proofs

attribute [local go_sem] Oper.semAt_some

/-- what has come when k rounds are over -/
def upto (zs : List Int) (k : Nat) : List Int := (List.range k).map fun j => zs[j]?.getD 0
theorem upto_succ (zs : List Int) (k : Nat) : upto zs (k + 1) = upto zs k ++ [zs[k]?.getD 0] := by simp [upto, List.range_succ]
theorem upto_length (zs : List Int) (k : Nat) : (upto zs k).length = k := by simp [upto]
theorem upto_all (zs : List Int) : upto zs zs.length = zs := by
  apply List.ext_getElem
  · simp [upto]
  · intro i h1 h2
    simp [upto, h2]
set_option maxRecDepth 100000 in
set_option maxHeartbeats 2000000 in
theorem values1 (F : Fence) (n : Nat) (h7 : F.fn 63) (hro : F.round = none) (hn : 1 ≤ n) (l Bs n₀ b off len cap : Nat) (zs : List Int) (hreach : len * 8 ≤ 140737488351232) (hb : b < n₀) (J Jx : List Int → World → Prop)
    (hY : ∀ pre x W, J pre W → pre.length < len → YieldAt F (n - 1) Try.prog l #[.int .i64 x] W fun e W' =>
      (e = .returned (.bool true) ∧ J (pre ++ [x]) W' ∧ Below n₀ W W') ∨ (e = .returned (.bool false) ∧ Jx (pre ++ [x]) W'))
    (W : World) (hBs : W.cell? ⟨Bs, 0, none⟩ = some (.slice (some ⟨b, off, none⟩) len cap)) (hc : ∀ j, j < len → W.cell? ⟨b, off + j, none⟩ = some (.int .i64 (zs[j]?.getD 0))) (h0 : J [] W) :
    CallsIn F n Try.prog 63 #[.func (.yield l) #[] #[], .pointer (some ⟨Bs, 0, none⟩)] W fun e W' => (∃ v, e = .returned v) ∧
      (J (upto zs len) W' ∨ (∃ pre, Jx pre W')) := by
  refine callsIn_of_wp Try.func63 rfl h7 ?_ hro
  simp only [Try.ntmps63, List.size_toArray, List.length_cons, List.length_nil, Nat.reduceAdd, Nat.reduceSub, Array.replicate_succ, Array.replicate_zero, List.push_toArray, List.append_toArray, List.nil_append, List.cons_append]
  gi_wp2
  gi_loopw [7] (fun i wr => ∃ k : Nat, k ≤ len ∧ i = .int .i64 k ∧ J (upto zs k) wr ∧ Below n₀ W wr)
    (fun i _ => len - (intOf i).toNat)
  case atStart => exact ⟨0, Nat.zero_le _, rfl, h0, Below.refl _ _⟩
  case round =>
    obtain ⟨k, hk, rfl, hJs, hnx⟩ := hrel
    have hcx : k < len → wr.cell? ⟨b, off + k, none⟩ = some (.int .i64 (zs[k]?.getD 0)) := fun h => (hnx.cell (p := ⟨b, off + k, none⟩) hb).trans (hc k h)
    by_cases hlt : k < len
    · obtain ⟨fn, tmps, assign, body, hy, hR⟩ := hY _ (zs[k]?.getD 0) wr hJs (by rw [upto_length]; exact hlt)
      have hcx' := hcx hlt
      gi_wp2
      refine hR.mono ?_
      rintro e W3 (⟨rfl, hJ3, hk3⟩ | ⟨rfl, hJx3⟩)
      · gi_wp2
        go_roundw
        case rel => exact ⟨k + 1, by omega, by simp, by rw [upto_succ]; exact hJ3, hnx.trans hk3⟩
        case measure => simp [intOf]; omega
      · gi_wp2
        refine bodyPost_ret (results_none rfl _ _ _) rfl ?_
        exact ⟨⟨_, rfl⟩, .inr ⟨_, hJx3⟩⟩
    · obtain rfl : k = len := by omega
      gi_wp2
      go_end0
      exact ⟨⟨_, rfl⟩, .inl hJs⟩
set_option maxRecDepth 100000 in
set_option maxHeartbeats 1000000 in
/-- .. of no elements -/
theorem values0 (F : Fence) (n : Nat) (h7 : F.fn 63) (hro : F.round = none) (l Bs : Nat) (A : Option Addr) (cap : Nat) (J : List Int → World → Prop) (W : World) (hBs : W.cell? ⟨Bs, 0, none⟩ = some (.slice A 0 cap)) (h0 : J [] W) :
    CallsIn F n Try.prog 63 #[.func (.yield l) #[] #[], .pointer (some ⟨Bs, 0, none⟩)] W fun e W' => (∃ v, e = .returned v) ∧ J [] W' := by
  refine callsIn_of_wp Try.func63 rfl h7 ?_ hro
  simp only [Try.ntmps63, List.size_toArray, List.length_cons, List.length_nil, Nat.reduceAdd, Nat.reduceSub, Array.replicate_succ, Array.replicate_zero, List.push_toArray, List.append_toArray, List.nil_append, List.cons_append]
  gi_wp2
  gi_loopw [7] (fun i wr => i = .int .i64 0 ∧ J [] wr) (fun _ _ => 0)
  case atStart => exact ⟨rfl, h0⟩
  case round =>
    obtain ⟨rfl, hJs⟩ := hrel
    gi_wp2
    go_end0
    exact ⟨⟨_, rfl⟩, hJs⟩
/-- the slice holds the numbers, in a block below n₀ -/
def Ints (n₀ : Nat) (W : World) (A : Option Addr) (zs : List Int) : Prop :=
  zs = [] ∨ ∃ b off, A = some ⟨b, off, none⟩ ∧ b < n₀ ∧ ∀ j, j < zs.length → W.cell? ⟨b, off + j, none⟩ = some (.int .i64 (zs[j]?.getD 0))
theorem Ints.below {n₀ : Nat} {A B : World} (h : Below n₀ A B) {sv : Option Addr} {zs : List Int} : Ints n₀ A sv zs → Ints n₀ B sv zs
  | .inl e => .inl e
  | .inr ⟨b, off, e, hb, hc⟩ => .inr ⟨b, off, e, hb, fun j hj => (h.cell (p := ⟨b, off + j, none⟩) hb).trans (hc j hj)⟩
theorem values_stops (F : Fence) (n : Nat) (h7 : F.fn 63) (hro : F.round = none) (hn : 1 ≤ n) (Bs n₀ : Nat) (A : Option Addr) (cap : Nat) (zs : List Int) (hreach : zs.length * 8 ≤ 140737488351232) (w : World) (hBs : Bs < w.heap.size) (hn₀ : n₀ ≤ w.heap.size)
    (hc : w.cell? ⟨Bs, 0, none⟩ = some (.slice A zs.length cap)) (hI : Ints n₀ w A zs) :
    SeqStopsK F n Try.prog 63 #[.pointer (some ⟨Bs, 0, none⟩)] (fun x : Int => #[Value.int .i64 x]) (Below n₀) (fun ys => ys = zs) (fun _ => True) zs.length w := fun l J Jx W hW _ _ hY h0 => by
  have hc' := (hW.cell (p := ⟨Bs, 0, none⟩) hBs).trans hc
  rcases hI.below (hW.mono hn₀) with rfl | ⟨b, off, rfl, hb, hcs⟩
  · exact (values0 F n h7 hro l Bs A cap J W hc' h0).mono fun e W' ⟨he, hj⟩ => ⟨he, .inl ⟨_, rfl, hj⟩⟩
  · refine (values1 F n h7 hro hn l Bs n₀ b off zs.length cap zs hreach hb J Jx hY W hc' hcs h0).mono ?_
    rintro e W' ⟨he, hj | ⟨pre, hj⟩⟩
    · exact ⟨he, .inl ⟨_, upto_all zs, hj⟩⟩
    · exact ⟨he, .inr ⟨_, trivial, hj⟩⟩
theorem inf3 : (Try.prog.info? 3).map (fun i => (i.zero, i.size, i.bytes)) = some (some (.int .i64 0), 1, 8) := by kernel_rfl
set_option maxRecDepth 100000 in
set_option maxHeartbeats 2000000 in
/-- slices.AppendSeq of nothing and the values of a slice -/
theorem appendSeq (n : Nat) (hn : 3 ≤ n) (Bs : Nat) (A : Option Addr) (cap : Nat) (zs : List Int) (hlen : zs.length ≤ maxLen) (hbytes : zs.length * 8 ≤ 140737488351232) (w : World) (hBs : Bs < w.heap.size)
    (hc : w.cell? ⟨Bs, 0, none⟩ = some (.slice A zs.length cap)) (hI : Ints w.heap.size w A zs) :
    CallsIn Fence.wide n Try.prog 72 #[.slice none 0 0, .func (.func 63) #[] #[.pointer (some ⟨Bs, 0, none⟩)]] w fun e W' => ∃ v, e = .returned v ∧ W'.ownsRow w.heap.size 3 1 v zs.length (zs.map (Value.int .i64)) ∧ (v = .slice none 0 0 ↔ zs = []) ∧ Below w.heap.size w W' := by
  have h1 : 1 ≤ n := by omega
  obtain ⟨i0, hi, hz0, hz1, hz2⟩ := info_parts inf3
  refine callsIn_of_wp_marks Try.func72 rfl trivial ?_ rfl
  simp only [Try.ntmps72, List.size_toArray, List.length_cons, List.length_nil, Nat.reduceAdd, Nat.reduceSub, Array.replicate_succ, Array.replicate_zero, List.push_toArray, List.append_toArray, List.nil_append, List.cons_append]
  gi_wp2
  have bO := Boxed.new w 29 (.slice none 0 0)
  have hB0 : Below w.heap.size w (w.alloc (.cells #[.slice none 0 0] 29)) := (Below.refl _ w).alloc (Nat.le_refl _) _
  refine wpIn_rangeFunc_ownG rfl h1 (gf := 63) (lb := #[.pointer (some ⟨Bs, 0, none⟩)]) rfl trivial (enters_of Try.func63 (by kernel_rfl) rfl)
    (values_stops Fence.wide (n - 1) trivial rfl (by omega) Bs w.heap.size A cap zs hbytes _ (by simp; omega) (by simp) ((hB0.cell (p := ⟨Bs, 0, none⟩) hBs).trans hc) (hI.below hB0)) belowK_t (belowK_b (by simp)) (Below.refl _ _) (fun _ => rfl)
    (fun pre W => (∃ v, Boxed W w.heap.size 29 v ∧ W.ownsRow w.heap.size 3 1 v pre.length (pre.map (Value.int .i64)) ∧ (v = .slice none 0 0 ↔ pre = [])) ∧ Below w.heap.size w W)
    (fun _ _ _ => False)
    (OwnFrom.and (Own.from (holdsRow_own w.heap.size w.heap.size 29 3 1 (fun pre : List Int => pre.length) (fun pre => pre.map (Value.int .i64)) (fun pre v => v = .slice none 0 0 ↔ pre = [])) _) (ownFrom_below (Nat.le_refl _) (by simp)))
    (fun _ _ _ _ _ hs _ _ => hs)
    ⟨⟨_, bO, World.ownsRow_nil _ _ _ _, by simp⟩, hB0⟩
    (fun x => { tmps := #[.slice none 0 0, .func (.func 63) #[] #[.pointer (some ⟨Bs, 0, none⟩)], .pointer (some ⟨w.heap.size, 0, none⟩), undef, .slice none 0 0, .int .i64 x, .func (.func 63) #[] #[.pointer (some ⟨Bs, 0, none⟩)], .int .i64 x, undef, undef, undef, undef, undef], defers := [] }) ?assign ?body ?done ?stop
  case assign =>
    intro l x W K hK
    gi_wp2
    exact hK
  case body =>
    rintro l pre x W ⟨⟨v, hv, hrow, hnil⟩, hB⟩ hlt
    have hc := hv.cell
    gi_wp2_with (gi_at_builtin; refine wpListIn_append_own _ rfl _ _ 29 rfl w.heap.size 3 i0 (.int .i64 0) 1 8 Try.underlying29 hi hz0 hz1 hz2 rfl (by decide) _ _ _ rfl (hrow.alloc _) ⟨W.heap.size, 0, none⟩ 1 1 [.int .i64 x] rfl rfl (cell_one_new _ _ _) (by simp [Value.oneCell']) (by omega) (by omega) (by have := hB.size; simp; omega) ?_; intro v' w1 hown' hgrow _; obtain ⟨g', cap', rfl⟩ := ownsRow_succ hown'; obtain ⟨hv1, hv2, hr2, hk2, hb2⟩ := hv.appended (by decide) hrow hB.size (Nat.le_refl _) hown' hgrow; have hc1 := hv1.cell; have hf1 := hv1.frozen)
    exact ⟨hk2.from _, hb2, ⟨_, hv2, by simpa using hr2, by simp⟩, hB.trans hb2⟩
  case done =>
    rintro D ys W hD rfl ⟨⟨v, hv, hrow, hnil⟩, hB⟩ hK
    have hc := hv.cell
    gi_wp2
    refine ⟨by simp, .inl ⟨_, _, rfl, run_takeDeferred hK, ?_⟩⟩
    exact ⟨_, results_tmp rfl _ _ _, v, rfl, ownsRow_putObj hrow _ hK rfl, hnil, hB.trans (belowK_b (w := w) (Nat.le_refl _) W D _ _ (by simp at hD; omega) hK rfl rfl)⟩
  case stop =>
    rintro D c pre W _ _ h _
    exact h.elim
end Go.Proofs.Ytfddebpeiilohaa.It

/-
  Plain: lists in lexical order; the best of some lists.
-/
set_option linter.all false
namespace Go.Proofs.Ytfddebpeiilohaa
open Go Go.W Go.RowKit

/-- a comes before b -/
def lexB : List Int → List Int → Bool
  | [], [] => false
  | [], _ :: _ => true
  | _ :: _, [] => false
  | x :: a, y :: b => if x < y then true else if y < x then false else lexB a b
theorem lexB_irr : ∀ a, lexB a a = false
  | [] => rfl
  | x :: a => by rw [lexB, if_neg (Int.lt_irrefl _), if_neg (Int.lt_irrefl _), lexB_irr a]
theorem lexB_tri : ∀ {a b : List Int}, lexB a b = false → lexB b a = false → a = b
  | [], [], _, _ => rfl
  | [], _ :: _, h, _ => by cases h
  | _ :: _, [], _, h => by cases h
  | x :: a, y :: b, h1, h2 => by
    rw [lexB] at h1 h2
    by_cases h3 : x < y
    · rw [if_pos h3] at h1; cases h1
    · by_cases h4 : y < x
      · rw [if_pos h4] at h2; cases h2
      · rw [if_neg h3, if_neg h4] at h1
        rw [if_neg h4, if_neg h3] at h2
        rw [lexB_tri h1 h2, show x = y by omega]
theorem lexB_asym : ∀ {a b : List Int}, lexB a b = true → lexB b a = false
  | [], [], h => by cases h
  | [], _ :: _, _ => rfl
  | _ :: _, [], h => by cases h
  | x :: a, y :: b, h => by
    rw [lexB] at h ⊢
    by_cases h3 : x < y
    · rw [if_neg (show ¬ y < x by omega), if_pos h3]
    · by_cases h4 : y < x
      · rw [if_neg h3, if_pos h4] at h; cases h
      · rw [if_neg h3, if_neg h4] at h
        rw [if_neg h4, if_neg h3]; exact lexB_asym h
theorem lexB_trans : ∀ {a b c : List Int}, lexB a b = true → lexB b c = true → lexB a c = true
  | [], [], _, h, _ => by cases h
  | [], _ :: _, [], _, h => by cases h
  | [], _ :: _, _ :: _, _, _ => rfl
  | _ :: _, [], _, h, _ => by cases h
  | _ :: _, _ :: _, [], _, h => by cases h
  | x :: a, y :: b, z :: c, h1, h2 => by
    rw [lexB] at h1 h2 ⊢
    by_cases h3 : x < y
    · by_cases h4 : z < y
      · rw [if_neg (by omega), if_pos h4] at h2; cases h2
      · rw [if_pos (by omega)]
    · by_cases h5 : y < x
      · rw [if_neg h3, if_pos h5] at h1; cases h1
      · have hxy : x = y := by omega
        subst hxy
        rw [if_neg h3, if_neg h5] at h1
        by_cases h4 : x < z
        · rw [if_pos h4]
        · rw [if_neg h4] at h2 ⊢
          by_cases h6 : z < x
          · rw [if_pos h6] at h2; cases h2
          · rw [if_neg h6] at h2 ⊢
            exact lexB_trans h1 h2
section
variable (m d : List Int → Int)
/-- b is better than a -/
def worse (a b : List Int) : Prop := m a < m b ∨ (m a = m b ∧ (d b < d a ∨ (d b = d a ∧ lexB b a = true)))
theorem worse_irr (a : List Int) : ¬ worse m d a a := by
  rintro (h | ⟨_, h | ⟨_, h⟩⟩)
  · omega
  · omega
  · rw [lexB_irr] at h; cases h
theorem worse_trans {a b c : List Int} (h1 : worse m d a b) (h2 : worse m d b c) : worse m d a c := by
  unfold worse at *
  rcases h1 with h1 | ⟨h1, h1' | ⟨h1', h1''⟩⟩ <;> rcases h2 with h2 | ⟨h2, h2' | ⟨h2', h2''⟩⟩
  · left; omega
  · left; omega
  · left; omega
  · left; omega
  · right; exact ⟨by omega, .inl (by omega)⟩
  · right; exact ⟨by omega, .inl (by omega)⟩
  · left; omega
  · right; exact ⟨by omega, .inl (by omega)⟩
  · right; exact ⟨by omega, .inr ⟨by omega, lexB_trans h2'' h1''⟩⟩
theorem worse_tri {a b : List Int} (h1 : ¬ worse m d a b) (h2 : ¬ worse m d b a) : a = b := by
  unfold worse at *
  have e1 : m a = m b := by
    rcases Int.lt_trichotomy (m a) (m b) with h | h | h
    · exact absurd (.inl h) h1
    · exact h
    · exact absurd (.inl h) h2
  have e2 : d a = d b := by
    rcases Int.lt_trichotomy (d a) (d b) with h | h | h
    · exact absurd (.inr ⟨e1.symm, .inl h⟩) h2
    · exact h
    · exact absurd (.inr ⟨e1, .inl h⟩) h1
  refine lexB_tri ?_ ?_
  · cases h : lexB a b with
    | false => rfl
    | true => exact absurd (.inr ⟨e1.symm, .inr ⟨e2, h⟩⟩) h2
  · cases h : lexB b a with
    | false => rfl
    | true => exact absurd (.inr ⟨e1, .inr ⟨e2.symm, h⟩⟩) h1
instance (a b : List Int) : Decidable (worse m d a b) := by unfold worse; exact inferInstance
def IsBest (C : List Int → Prop) : Option (List Int) → Prop
  | none => ∀ o, ¬ C o
  | some x => C x ∧ ∀ o, C o → ¬ worse m d x o
variable {m d}
theorem IsBest.unique {C : List Int → Prop} : ∀ {x y : Option (List Int)}, IsBest m d C x → IsBest m d C y → x = y
  | none, none, _, _ => rfl
  | none, some y, h, h' => absurd h'.1 (h y)
  | some x, none, h, h' => absurd h.1 (h' x)
  | some x, some y, h, h' => by rw [worse_tri m d (h.2 y h'.1) (h'.2 x h.1)]
theorem IsBest.congr {C C' : List Int → Prop} (hc : ∀ o, C o ↔ C' o) : ∀ {x : Option (List Int)}, IsBest m d C x → IsBest m d C' x
  | none, h => fun o ho => h o ((hc o).2 ho)
  | some x, h => ⟨(hc x).1 h.1, fun o ho => h.2 o ((hc o).2 ho)⟩
variable (m d)
def bet : Option (List Int) → Option (List Int) → Option (List Int)
  | none, y => y
  | some x, none => some x
  | some x, some y => if worse m d x y then some y else some x
variable {m d}
theorem IsBest.union {C C' : List Int → Prop} : ∀ {x y : Option (List Int)}, IsBest m d C x → IsBest m d C' y → IsBest m d (fun o => C o ∨ C' o) (bet m d x y)
  | none, none, h, h' => fun o ho => ho.elim (h o) (h' o)
  | none, some y, h, h' => ⟨.inr h'.1, fun o ho => ho.elim (fun hc => absurd hc (h o)) (h'.2 o)⟩
  | some x, none, h, h' => ⟨.inl h.1, fun o ho => ho.elim (h.2 o) (fun hc => absurd hc (h' o))⟩
  | some x, some y, h, h' => by
    show IsBest m d _ (if worse m d x y then some y else some x)
    by_cases hw : worse m d x y
    · rw [if_pos hw]
      exact ⟨.inr h'.1, fun o ho hyo => ho.elim (fun hc => h.2 o hc (worse_trans m d hw hyo)) (fun hc => h'.2 o hc hyo)⟩
    · rw [if_neg hw]
      refine ⟨.inl h.1, fun o ho hxo => ho.elim (fun hc => h.2 o hc hxo) (fun hc => ?_)⟩
      -- x < o, not o better than y: so x < y or ..
      by_cases hyo : worse m d o y
      · exact hw (worse_trans m d hxo hyo)
      · have : y = o := worse_tri m d (h'.2 o hc) hyo
        subst this; exact hw hxo
theorem IsBest.one (o : List Int) : IsBest m d (fun x => x = o) (some o) := ⟨rfl, fun x hx => by subst hx; exact worse_irr m d x⟩
theorem IsBest.zero : IsBest m d (fun _ => False) none := fun _ h => h
end
/-! ### the next order -/
theorem lexB_head {x : Int} {a b : List Int} : lexB (x :: a) (x :: b) = lexB a b := by rw [lexB, if_neg (Int.lt_irrefl _), if_neg (Int.lt_irrefl _)]
theorem lexB_pre : ∀ {p a b : List Int}, lexB (p ++ a) (p ++ b) = lexB a b
  | [], _, _ => rfl
  | x :: p, a, b => by rw [List.cons_append, List.cons_append, lexB_head, lexB_pre]
/-- a falling list is the last of its orders -/
theorem desc_max : ∀ {s t : List Int}, s.Pairwise (fun x y => y < x) → t.Perm s → lexB s t = false
  | [], t, _, hp => by rw [hp.eq_nil]; rfl
  | a :: s, t, hs, hp => by
    rw [List.pairwise_cons] at hs
    cases t with
    | nil => rfl
    | cons b t =>
      have hb : b ∈ a :: s := hp.mem_iff.1 List.mem_cons_self
      have hba : b ≤ a := by
        rcases List.mem_cons.1 hb with rfl | hb
        · exact Int.le_refl _
        · have := hs.1 b hb; omega
      by_cases h : b = a
      · subst h
        rw [lexB_head]
        exact desc_max hs.2 (List.perm_cons b |>.1 hp)
      · rw [lexB, if_neg (by omega), if_pos (by omega)]
/-- a rising list is the first of its orders -/
theorem asc_min : ∀ {s t : List Int}, s.Pairwise (fun x y => x < y) → t.Perm s → lexB t s = false
  | [], t, _, hp => by rw [hp.eq_nil]; rfl
  | a :: s, t, hs, hp => by
    rw [List.pairwise_cons] at hs
    cases t with
    | nil => exact absurd hp.length_eq (by simp)
    | cons b t =>
      have hb : b ∈ a :: s := hp.mem_iff.1 List.mem_cons_self
      have hba : a ≤ b := by
        rcases List.mem_cons.1 hb with rfl | hb
        · exact Int.le_refl _
        · have := hs.1 b hb; omega
      by_cases h : b = a
      · subst h
        rw [lexB_head]
        exact asc_min hs.2 (List.perm_cons b |>.1 hp)
      · rw [lexB, if_neg (by omega), if_pos (by omega)]
theorem perm_drop {p a b : List Int} (h : (p ++ a).Perm (p ++ b)) : a.Perm b := (List.perm_append_left_iff p).1 h
/-- the order that follows p, x, big, y, small (falling from big on; y the last that is greater than x) -/
theorem next_ok {p big small : List Int} {x y : Int} (hd : (big ++ y :: small).Pairwise fun a b => b < a) (hxy : x < y) (hsm : ∀ z ∈ small, z < x) :
    lexB (p ++ x :: (big ++ y :: small)) (p ++ y :: (big ++ x :: small).reverse) = true ∧
    (p ++ y :: (big ++ x :: small).reverse).Perm (p ++ x :: (big ++ y :: small)) ∧
    ∀ o : List Int, o.Perm (p ++ x :: (big ++ y :: small)) → lexB (p ++ x :: (big ++ y :: small)) o = true → o = p ++ y :: (big ++ x :: small).reverse ∨ lexB (p ++ y :: (big ++ x :: small).reverse) o = true := by
  have hd0 := hd
  rw [List.pairwise_append, List.pairwise_cons] at hd
  obtain ⟨d1, ⟨d2, d3⟩, d4⟩ := hd
  have hbig : ∀ z ∈ big, y < z := fun z hz => d4 z hz y List.mem_cons_self
  have hasc : ((big ++ x :: small).reverse).Pairwise fun a b => a < b := by
    rw [List.pairwise_reverse, List.pairwise_append, List.pairwise_cons]
    refine ⟨d1, ⟨hsm, d3⟩, fun z hz w hw => ?_⟩
    have := hbig z hz
    rcases List.mem_cons.1 hw with rfl | hw
    · omega
    · have := hsm w hw; omega
  have hperm : (y :: (big ++ x :: small).reverse).Perm (x :: (big ++ y :: small)) := by
    refine ((List.reverse_perm _).cons y).trans ?_
    refine (List.Perm.cons y List.perm_middle).trans ?_
    refine (List.Perm.swap x y _).trans ?_
    exact List.Perm.cons x List.perm_middle.symm
  refine ⟨by rw [lexB_pre, lexB, if_pos hxy], hperm.append_left p, ?_⟩
  induction p with
  | nil =>
    intro o ho hlt
    simp only [List.nil_append] at ho hlt ⊢
    cases o with
    | nil => cases hlt
    | cons z t =>
      have hz : z ∈ x :: (big ++ y :: small) := ho.mem_iff.1 List.mem_cons_self
      rw [lexB] at hlt
      by_cases h1 : x < z
      · -- z is at least y
        have hzy : y ≤ z := by
          rcases List.mem_cons.1 hz with rfl | hz
          · omega
          · rcases List.mem_append.1 hz with hz | hz
            · have := hbig z hz; omega
            · rcases List.mem_cons.1 hz with rfl | hz
              · exact Int.le_refl _
              · have := hsm z hz; omega
        by_cases h2 : z = y
        · subst h2
          have hp : t.Perm (big ++ x :: small).reverse := by
            have := ho.trans hperm.symm
            exact (List.perm_cons z).1 this
          have hm := asc_min hasc hp
          cases hx : lexB (big ++ x :: small).reverse t with
          | false => left; rw [lexB_tri hm hx]
          | true => right; rw [lexB_head]; exact hx
        · right; rw [lexB, if_pos (by omega)]
      · rw [if_neg h1] at hlt
        by_cases h2 : z < x
        · rw [if_pos h2] at hlt; cases hlt
        · rw [if_neg h2] at hlt
          have : z = x := by omega
          subst this
          rw [desc_max hd0 ((List.perm_cons z).1 ho)] at hlt; cases hlt
  | cons a p ih =>
    intro o ho hlt
    simp only [List.cons_append] at ho hlt ⊢
    cases o with
    | nil => cases hlt
    | cons z t =>
      rw [lexB] at hlt
      by_cases h1 : a < z
      · right; rw [lexB, if_pos h1]
      · rw [if_neg h1] at hlt
        by_cases h2 : z < a
        · rw [if_pos h2] at hlt; cases hlt
        · rw [if_neg h2] at hlt
          have : z = a := by omega
          subst this
          rcases ih t ((List.perm_cons z).1 ho) hlt with h | h
          · left; rw [h]
          · right; rw [lexB_head]; exact h
/-! ### parts of a list -/
def pickS : List Int → Nat → List Int
  | [], _ => []
  | x :: l, s => (if s % 2 = 1 then [x] else []) ++ pickS l (s / 2)
theorem pickS_snoc : ∀ (l : List Int) (x : Int) (s : Nat), pickS (l ++ [x]) s = pickS l s ++ if (s / 2 ^ l.length) % 2 = 1 then [x] else []
  | [], x, s => by simp [pickS]
  | a :: l, x, s => by
    rw [List.cons_append, pickS, pickS, pickS_snoc l x (s / 2), List.append_assoc, Nat.div_div_eq_div_mul, List.length_cons, Nat.pow_succ, Nat.mul_comm 2]
theorem pickS_all (p : Int → Bool) : ∀ l : List Int, ∃ s, s < 2 ^ l.length ∧ pickS l s = l.filter p
  | [] => ⟨0, by simp, rfl⟩
  | x :: l => by
    obtain ⟨s, h1, h2⟩ := pickS_all p l
    cases hp : p x with
    | true => exact ⟨2 * s + 1, by rw [List.length_cons, Nat.pow_succ]; omega, by rw [pickS, if_pos (by omega), show (2 * s + 1) / 2 = s by omega, h2, List.filter_cons_of_pos hp]; rfl⟩
    | false => exact ⟨2 * s, by rw [List.length_cons, Nat.pow_succ]; omega, by rw [pickS, if_neg (by omega), show 2 * s / 2 = s by omega, h2, List.filter_cons_of_neg (by rw [hp]; simp)]; rfl⟩
theorem pickS_sub : ∀ (l : List Int) (s : Nat), (pickS l s).Sublist l
  | [], _ => List.Sublist.refl _
  | x :: l, s => by
    rw [pickS]
    have := pickS_sub l (s / 2)
    split
    · exact this.cons_cons x
    · exact this.cons x
/-- every selection without repetition is an order of a part -/
theorem part_of {l o : List Int} (hl : l.Nodup) (ho : o.Nodup) (hs : ∀ x ∈ o, x ∈ l) : ∃ s, s < 2 ^ l.length ∧ o.Perm (pickS l s) := by
  obtain ⟨s, h1, h2⟩ := pickS_all (fun x => decide (x ∈ o)) l
  refine ⟨s, h1, ?_⟩
  rw [h2]
  refine (List.perm_ext_iff_of_nodup ho (hl.filter _)).2 fun x => ?_
  rw [List.mem_filter]
  simp
  exact hs x
end Go.Proofs.Ytfddebpeiilohaa

/-
  Plain: the step from an order to the next one, by places; all orders are met.
-/
set_option linter.all false
namespace Go.Proofs.Ytfddebpeiilohaa
open Go Go.W Go.RowKit

/-- what the program does with places i and k -/
def swp (l : List Int) (i k : Nat) : List Int := (l.set i (l.getD k 0)).set k (l.getD i 0)
theorem swp_len (l : List Int) (i k : Nat) : (swp l i k).length = l.length := by simp [swp]
def stepL (l : List Int) (i k : Nat) : List Int := (swp l i k).take (i + 1) ++ ((swp l i k).drop (i + 1)).reverse
theorem stepL_len (l : List Int) (i k : Nat) : (stepL l i k).length = l.length := by
  unfold stepL
  rw [List.length_append, List.length_reverse, ← List.length_append, List.take_append_drop, swp_len]
theorem getDi {l : List Int} {k : Nat} (h : k < l.length) : l.getD k 0 = l[k] := by rw [List.getD_eq_getElem?_getD, List.getElem?_eq_getElem h]; rfl
theorem stepL_form {p big small : List Int} {x y : Int} : stepL (p ++ x :: (big ++ y :: small)) p.length (p.length + 1 + big.length) = p ++ y :: (big ++ x :: small).reverse := by
  have e1 : (p ++ x :: (big ++ y :: small)).getD p.length 0 = x := by rw [List.getD_eq_getElem?_getD, List.getElem?_append_right (Nat.le_refl _)]; simp
  have e2 : (p ++ x :: (big ++ y :: small)).getD (p.length + 1 + big.length) 0 = y := by
    rw [List.getD_eq_getElem?_getD, List.getElem?_append_right (by omega), show p.length + 1 + big.length - p.length = big.length + 1 by omega, List.getElem?_cons_succ, List.getElem?_append_right (Nat.le_refl _)]; simp
  have e3 : swp (p ++ x :: (big ++ y :: small)) p.length (p.length + 1 + big.length) = p ++ y :: (big ++ x :: small) := by
    unfold swp
    rw [e1, e2, List.set_append_right _ _ (Nat.le_refl _), Nat.sub_self, List.set_cons_zero, List.set_append_right _ _ (by omega), show p.length + 1 + big.length - p.length = big.length + 1 by omega, List.set_cons_succ, List.set_append_right _ _ (Nat.le_refl _), Nat.sub_self, List.set_cons_zero]
  unfold stepL
  rw [e3, show p ++ y :: (big ++ x :: small) = (p ++ [y]) ++ (big ++ x :: small) by simp, List.take_left' (by simp), List.drop_left' (by simp)]
  simp
/-- falling from place j on -/
def Fall (l : List Int) (j : Nat) : Prop := ∀ a b, j ≤ a → a < b → b < l.length → l.getD b 0 < l.getD a 0
theorem split_at {l : List Int} {i k : Nat} (hik : i < k) (hk : k < l.length) : ∃ p big small, l = p ++ l.getD i 0 :: (big ++ l.getD k 0 :: small) ∧ p.length = i ∧ p.length + 1 + big.length = k ∧ (big ++ l.getD k 0 :: small) = l.drop (i + 1) ∧ small = l.drop (k + 1) := by
  refine ⟨l.take i, (l.drop (i + 1)).take (k - (i + 1)), l.drop (k + 1), ?_, by simp; omega, by simp; omega, ?_, rfl⟩
  · rw [getDi hk, getDi (show i < l.length by omega)]
    have h1 : (l.drop (i + 1)).take (k - (i + 1)) ++ l[k] :: l.drop (k + 1) = l.drop (i + 1) := by
      have := List.take_append_drop (k - (i + 1)) (l.drop (i + 1))
      rw [List.drop_drop, show i + 1 + (k - (i + 1)) = k by omega, List.drop_eq_getElem_cons hk] at this
      exact this
    rw [h1, ← List.drop_eq_getElem_cons (show i < l.length by omega), List.take_append_drop]
  · rw [getDi hk]
    have := List.take_append_drop (k - (i + 1)) (l.drop (i + 1))
    rw [List.drop_drop, show i + 1 + (k - (i + 1)) = k by omega, List.drop_eq_getElem_cons hk] at this
    exact this
theorem fall_drop {l : List Int} {j : Nat} (h : Fall l j) : (l.drop j).Pairwise fun a b => b < a := by
  rw [List.pairwise_iff_getElem]
  intro a b ha hb hab
  rw [List.getElem_drop, List.getElem_drop]
  have := h (j + a) (j + b) (by omega) (by omega) (by simp at hb; omega)
  rw [getDi (by simp at hb; omega), getDi (by simp at ha; omega)] at this
  exact this
/-- the step -/
theorem step_ok {l : List Int} {i k : Nat} (hik : i < k) (hk : k < l.length) (hf : Fall l (i + 1)) (hlt : l.getD i 0 < l.getD k 0) (hno : ∀ k', k < k' → k' < l.length → ¬ l.getD i 0 < l.getD k' 0) (hnd : l.Nodup) :
    lexB l (stepL l i k) = true ∧ (stepL l i k).Perm l ∧ ∀ o : List Int, o.Perm l → lexB l o = true → o = stepL l i k ∨ lexB (stepL l i k) o = true := by
  obtain ⟨p, big, small, h1, h2, h3, h4, h5⟩ := split_at hik hk
  have hd := fall_drop hf
  rw [← h4] at hd
  have hsm : ∀ z ∈ small, z < l.getD i 0 := fun z hz => by
    rw [h5] at hz
    obtain ⟨q, hq, rfl⟩ := List.mem_iff_getElem.1 hz
    simp at hq
    rw [List.getElem_drop]
    have := hno (k + 1 + q) (by omega) (by omega)
    rw [getDi (show k + 1 + q < l.length by omega)] at this
    have hne : l[k + 1 + q] ≠ l.getD i 0 := by
      rw [getDi (show i < l.length by omega)]
      intro he
      have := (List.getElem_inj hnd).1 he
      omega
    omega
  have hn := next_ok (p := p) (x := l.getD i 0) hd hlt hsm
  have e : stepL l i k = p ++ l.getD k 0 :: (big ++ l.getD i 0 :: small).reverse := by
    have := stepL_form (p := p) (big := big) (small := small) (x := l.getD i 0) (y := l.getD k 0)
    rw [h3, ← h1, h2] at this
    exact this
  rw [e]
  rw [← h1] at hn
  exact hn
/-- a place in front of a falling part, not less than all that follows -/
theorem fall_more {l : List Int} {i : Nat} (hf : Fall l (i + 1)) (hno : ∀ k, i < k → k < l.length → ¬ l.getD i 0 < l.getD k 0) (hnd : l.Nodup) : Fall l i := fun a b h1 h2 h3 => by
  by_cases h : a = i
  · subst h
    have := hno b h2 h3
    have hne : l.getD b 0 ≠ l.getD a 0 := by
      rw [getDi h3, getDi (show a < l.length by omega)]
      intro he
      have := (List.getElem_inj hnd).1 he
      omega
    omega
  · exact hf a b (by omega) h2 h3
/-! ### all orders are met -/
structure Met (l0 cur : List Int) (V : List (List Int)) : Prop where
  perm : cur.Perm l0
  sub : ∀ o ∈ V, o.Perm l0
  all : ∀ o : List Int, o.Perm l0 → lexB o cur = true → o ∈ V
theorem Met.start {l0 cur : List Int} (hp : cur.Perm l0) (hs : cur.Pairwise fun x y => x < y) : Met l0 cur [] :=
  ⟨hp, fun o h => (List.not_mem_nil h).elim, fun o ho hl => by rw [asc_min hs (ho.trans hp.symm)] at hl; cases hl⟩
theorem Met.step {l0 cur : List Int} {V : List (List Int)} (h : Met l0 cur V) {i k : Nat} (hik : i < k) (hk : k < cur.length) (hf : Fall cur (i + 1)) (hlt : cur.getD i 0 < cur.getD k 0) (hno : ∀ k', k < k' → k' < cur.length → ¬ cur.getD i 0 < cur.getD k' 0) (hnd : cur.Nodup) :
    Met l0 (stepL cur i k) (V ++ [cur]) := by
  obtain ⟨h1, h2, h3⟩ := step_ok hik hk hf hlt hno hnd
  refine ⟨h2.trans h.perm, fun o ho => ?_, fun o ho hl => ?_⟩
  · rcases List.mem_append.1 ho with ho | ho
    · exact h.sub o ho
    · rw [List.mem_singleton.1 ho]; exact h.perm
  · cases hc : lexB o cur with
    | true => exact List.mem_append_left _ (h.all o ho hc)
    | false =>
      cases hc2 : lexB cur o with
      | false => rw [lexB_tri hc hc2]; simp
      | true =>
        exfalso
        rcases h3 o (ho.trans h.perm.symm) hc2 with h4 | h4
        · rw [h4, lexB_irr] at hl; cases hl
        · rw [lexB_asym h4] at hl; cases hl
theorem Met.done {l0 cur : List Int} {V : List (List Int)} (h : Met l0 cur V) (hf : Fall cur 0) : ∀ o, o ∈ V ++ [cur] ↔ o.Perm l0 := fun o => by
  constructor
  · intro ho
    rcases List.mem_append.1 ho with ho | ho
    · exact h.sub o ho
    · rw [List.mem_singleton.1 ho]; exact h.perm
  · intro ho
    have hm := desc_max (by have := fall_drop hf; rwa [List.drop_zero] at this) (ho.trans h.perm.symm)
    cases hc : lexB o cur with
    | true => exact List.mem_append_left _ (h.all o ho hc)
    | false => rw [lexB_tri hc hm]; simp
/-! ### a number for an order -/
def encL : List Int → Nat
  | [] => 0
  | x :: l => x.toNat * 64 ^ l.length + encL l
theorem encL_lt : ∀ {l : List Int}, (∀ x ∈ l, 0 ≤ x ∧ x < 64) → encL l < 64 ^ l.length
  | [], _ => by simp [encL]
  | x :: l, h => by
    have ih := encL_lt (l := l) fun y hy => h y (List.mem_cons_of_mem _ hy)
    have hx := h x List.mem_cons_self
    rw [encL, List.length_cons, Nat.pow_succ, Nat.mul_comm (64 ^ l.length)]
    have : x.toNat ≤ 63 := by omega
    have := Nat.mul_le_mul_right (64 ^ l.length) this
    omega
theorem encL_lex : ∀ {a b : List Int}, a.length = b.length → (∀ x ∈ a, 0 ≤ x ∧ x < 64) → (∀ x ∈ b, 0 ≤ x ∧ x < 64) → lexB a b = true → encL a < encL b
  | [], [], _, _, _, h => by cases h
  | [], _ :: _, h, _, _, _ => by cases h
  | _ :: _, [], h, _, _, _ => by cases h
  | x :: a, y :: b, hl, ha, hb, h => by
    have hl' : a.length = b.length := by simpa using hl
    have hx := ha x List.mem_cons_self
    have hy := hb y List.mem_cons_self
    have ea := encL_lt (l := a) fun z hz => ha z (List.mem_cons_of_mem _ hz)
    rw [lexB] at h
    rw [encL, encL, hl']
    by_cases h1 : x < y
    · have h2 : x.toNat + 1 ≤ y.toNat := by omega
      have h3 := Nat.mul_le_mul_right (64 ^ b.length) h2
      rw [Nat.add_mul, Nat.one_mul] at h3
      rw [hl'] at ea
      omega
    · rw [if_neg h1] at h
      by_cases h2 : y < x
      · rw [if_pos h2] at h; cases h
      · rw [if_neg h2] at h
        have : x = y := by omega
        subst this
        have := encL_lex hl' (fun z hz => ha z (List.mem_cons_of_mem _ hz)) (fun z hz => hb z (List.mem_cons_of_mem _ hz)) h
        omega
end Go.Proofs.Ytfddebpeiilohaa

/-
  Plain: the best of the orders that were met.
-/
set_option linter.all false
namespace Go.Proofs.Ytfddebpeiilohaa
open Go Go.W Go.RowKit

section
variable (m d : List Int → Int) (F : List Int → Bool)
def visB (s : Option (List Int)) (o : List Int) : Option (List Int) := if F o = true then bet m d s (some o) else s
variable {m d F}
theorem IsBest.vis {C : List Int → Prop} {s : Option (List Int)} (h : IsBest m d C s) (o : List Int) : IsBest m d (fun x => C x ∨ (x = o ∧ F o = true)) (visB m d F s o) := by
  unfold visB
  by_cases hf : F o = true
  · rw [if_pos hf]
    exact (h.union (IsBest.one o)).congr fun x => by simp [hf]
  · rw [if_neg hf]
    exact h.congr fun x => by simp [hf]
theorem IsBest.fold : ∀ {V : List (List Int)} {C : List Int → Prop} {s : Option (List Int)}, IsBest m d C s → IsBest m d (fun x => C x ∨ (x ∈ V ∧ F x = true)) (V.foldl (visB m d F) s)
  | [], C, s, h => h.congr fun x => by simp
  | o :: V, C, s, h => by
    refine (IsBest.fold (V := V) (h.vis (F := F) o)).congr fun x => ?_
    simp only [List.mem_cons]
    constructor
    · rintro ((h | ⟨h, h2⟩) | h)
      · exact .inl h
      · exact .inr ⟨.inl h, by rw [h]; exact h2⟩
      · exact .inr ⟨.inr h.1, h.2⟩
    · rintro (h | ⟨h | h, h2⟩)
      · exact .inl (.inl h)
      · exact .inl (.inr ⟨h, by rw [← h]; exact h2⟩)
      · exact .inr ⟨h, h2⟩
end
end Go.Proofs.Ytfddebpeiilohaa

/-
  The contracts of library functions at this seat, as the kit's command has written them in plain words.
-/
set_option linter.all false
namespace Go.Proofs
open Go.Shelf
def Try.lays189_ren : Go.Shelf.Ren := ⟨fun | 189 => 62 | 125 => 74 | 257 => 73 | 128 => 87 | 129 => 88 | 294 => 78 | 295 => 79 | 296 => 80 | 297 => 81 | 298 => 82 | 299 => 83 | 216 => 84 | 300 => 85 | 301 => 86 | 328 => 90 | 329 => 91 | 330 => 92 | 331 => 93 | 332 => 94 | 215 => 67 | 343 => 97 | n => n, fun | 28 => 29 | 3 => 3 | 46 => 113 | 0 => 0 | 51 => 127 | 53 => 129 | 4 => 4 | 183 => 119 | 182 => 118 | 131 => 124 | 5 => 5 | 9 => 9 | 218 => 131 | 222 => 135 | 228 => 144 | 229 => 145 | n => n, fun | n => n⟩
theorem Try.lays189 : Go.Proofs.Lays.n189 Try.prog Try.lays189_ren := {
  mixed := by kernel_rfl
  f125 := Try.func74.trans (congrArg some (by kernel_rfl))
  f128 := Try.func87.trans (congrArg some (by kernel_rfl))
  f129 := Try.func88.trans (congrArg some (by kernel_rfl))
  f189 := Try.func62.trans (congrArg some (by kernel_rfl))
  f215 := Try.func67.trans (congrArg some (by kernel_rfl))
  f216 := Try.func84.trans (congrArg some (by kernel_rfl))
  f257 := Try.func73.trans (congrArg some (by kernel_rfl))
  f294 := Try.func78.trans (congrArg some (by kernel_rfl))
  f295 := Try.func79.trans (congrArg some (by kernel_rfl))
  f296 := Try.func80.trans (congrArg some (by kernel_rfl))
  f297 := Try.func81.trans (congrArg some (by kernel_rfl))
  f298 := Try.func82.trans (congrArg some (by kernel_rfl))
  f299 := Try.func83.trans (congrArg some (by kernel_rfl))
  f300 := Try.func85.trans (congrArg some (by kernel_rfl))
  f301 := Try.func86.trans (congrArg some (by kernel_rfl))
  f328 := Try.func90.trans (congrArg some (by kernel_rfl))
  f329 := Try.func91.trans (congrArg some (by kernel_rfl))
  f330 := Try.func92.trans (congrArg some (by kernel_rfl))
  f331 := Try.func93.trans (congrArg some (by kernel_rfl))
  f332 := Try.func94.trans (congrArg some (by kernel_rfl))
  f343 := Try.func97.trans (congrArg some (by kernel_rfl))
  t0 := Try.underlying0
  a0 := Try.isAgg0
  z0 := Try.sizeOf0
  v0 := Try.zeroValue0
  t3 := Try.underlying3
  a3 := Try.isAgg3
  z3 := Try.sizeOf3
  v3 := Try.zeroValue3
  t4 := Try.underlying4
  a4 := Try.isAgg4
  z4 := Try.sizeOf4
  v4 := Try.zeroValue4
  t5 := Try.underlying5
  a5 := Try.isAgg5
  z5 := Try.sizeOf5
  v5 := Try.zeroValue5
  t9 := Try.underlying9
  a9 := Try.isAgg9
  z9 := Try.sizeOf9
  v9 := Try.zeroValue9
  t28 := Try.underlying29
  a28 := Try.isAgg29
  z28 := Try.sizeOf29
  v28 := Try.zeroValue29
  t46 := Try.underlying113
  a46 := Try.isAgg113
  z46 := Try.sizeOf113
  v46 := Try.zeroValue113
  t51 := Try.underlying127
  a51 := Try.isAgg127
  z51 := Try.sizeOf127
  v51 := Try.zeroValue127
  t53 := Try.underlying129
  a53 := Try.isAgg129
  z53 := Try.sizeOf129
  v53 := Try.zeroValue129
  t131 := Try.underlying124
  a131 := Try.isAgg124
  z131 := Try.sizeOf124
  v131 := Try.zeroValue124
  t182 := Try.underlying118
  a182 := Try.isAgg118
  z182 := Try.sizeOf118
  v182 := Try.zeroValue118
  t183 := Try.underlying119
  a183 := Try.isAgg119
  z183 := Try.sizeOf119
  v183 := Try.zeroValue119
  t218 := Try.underlying131
  a218 := Try.isAgg131
  z218 := Try.sizeOf131
  v218 := Try.zeroValue131
  t222 := Try.underlying135
  a222 := Try.isAgg135
  z222 := Try.sizeOf135
  v222 := Try.zeroValue135
  t228 := Try.underlying144
  a228 := Try.isAgg144
  z228 := Try.sizeOf144
  v228 := Try.zeroValue144
  t229 := Try.underlying145
  a229 := Try.isAgg145
  z229 := Try.sizeOf145
  v229 := Try.zeroValue145 }
def Try.lays112_ren : Go.Shelf.Ren := ⟨fun | 112 => 64 | n => n, fun | 28 => 29 | 3 => 3 | 4 => 4 | 0 => 0 | n => n, fun | n => n⟩
theorem Try.lays112 : Go.Proofs.Lays.n112 Try.prog Try.lays112_ren := {
  mixed := by kernel_rfl
  f112 := Try.func64.trans (congrArg some (by kernel_rfl))
  t0 := Try.underlying0
  a0 := Try.isAgg0
  z0 := Try.sizeOf0
  v0 := Try.zeroValue0
  t3 := Try.underlying3
  a3 := Try.isAgg3
  z3 := Try.sizeOf3
  v3 := Try.zeroValue3
  t4 := Try.underlying4
  a4 := Try.isAgg4
  z4 := Try.sizeOf4
  v4 := Try.zeroValue4
  t28 := Try.underlying29
  a28 := Try.isAgg29
  z28 := Try.sizeOf29
  v28 := Try.zeroValue29 }
def Try.laysNm220_ren : Go.Shelf.Ren := ⟨fun | 20 => 39 | n => n, fun | 22 => 29 | 3 => 3 | 4 => 4 | 0 => 0 | n => n, fun | n => n⟩
theorem Try.laysNm220 : Go.Proofs.Lays2.n20 Try.prog Try.laysNm220_ren := {
  mixed := by kernel_rfl
  f20 := Try.func39.trans (congrArg some (by kernel_rfl))
  t0 := Try.underlying0
  a0 := Try.isAgg0
  z0 := Try.sizeOf0
  v0 := Try.zeroValue0
  t3 := Try.underlying3
  a3 := Try.isAgg3
  z3 := Try.sizeOf3
  v3 := Try.zeroValue3
  t4 := Try.underlying4
  a4 := Try.isAgg4
  z4 := Try.sizeOf4
  v4 := Try.zeroValue4
  t22 := Try.underlying29
  a22 := Try.isAgg29
  z22 := Try.sizeOf29
  v22 := Try.zeroValue29
  i3 := by kernel_rfl }
open Go.Sort Go.RowKit in
theorem Try.slices_Sort_int (blk off cap : Nat) (zs : List Int) (w : World) (hH : Holds (Value.int .i64) w blk off zs.toArray) (hblk : blk < w.heap.size) (hsz : zs.length < 4611686018427387904) :
    Calls Try.prog 62 #[.slice (some ⟨blk, off, none⟩) zs.length cap] w fun e w' =>
      e = .returned (.tuple #[]) ∧ ∃ n os, w' = grow (putRow (Value.int .i64) (Sort.ahead w n) blk off (zs.mergeSort fun x y => decide (x ≤ y)).toArray) os := Any.slices_Sort_int Try.lays189 blk off cap zs w hH hblk hsz
open Go.RowKit Go.Lib Go.Sort in
/-- slices.Reverse at []int: "Reverse reverses the elements of the slice in place.": THE SLICE's CELLS HOLD 'zs.reverse' BEHIND THE CALL; all else is as it was, but for the count of draws (the exchange 's[i], s[j] = s[j], s[i]' draws its order, once a round). IN THE WORDS OF slices.Sort's CONTRACT: 'Holds': the cells hold zs and none is frozen; 'putRow': the world with those cells holding another array. A slice of length 0 that is not nil is among them ('zs = []'); nil: '.._nil'. (LAID: no walk: one application.) -/
theorem Try.slices_Reverse_int (blk off cap : Nat) (zs : List Int) (w : World) (hH : Holds (Value.int .i64) w blk off zs.toArray) (hsz : zs.length ≤ 9223372036854775807) :
    Calls Try.prog 64 #[.slice (some ⟨blk, off, none⟩) zs.length cap] w fun e w' => e = .returned (.tuple #[]) ∧ ∃ n, w' = putRow (Value.int .i64) (Sort.ahead w n) blk off zs.reverse.toArray := Any.slices_Reverse_int Try.lays112 blk off cap zs w hH hsz
open Go.RowKit Go.Lib Go.Sort in
/-- The same at a slice of length 0, a nil one too: nothing is read, nothing written, nothing drawn. (LAID: no walk: one application.) -/
theorem Try.slices_Reverse_int_empty (a : Option Addr) (cap : Nat) (w : World) :
    Calls Try.prog 64 #[.slice a 0 cap] w fun e w' => e = .returned (.tuple #[]) ∧ w' = w := Any.slices_Reverse_int_empty Try.lays112 a cap w
open Go.RowKit Go.Lib Go.Sort in
/-- slices.Compact at []int: "Compact replaces consecutive runs of equal elements with a single copy. This is like the uniq command found on Unix. Compact modifies the contents of the slice s and returns the modified slice, which may have a smaller length. Compact zeroes the elements between the new length and the original length. The result preserves the nilness of s.": IT RETURNS THE SLICE CUT TO 'Lib.compact zs'; ITS CELLS HOLD 'Lib.compact zs', THEN ZERO VALUES up to the old length; all else is as it was, but for the count of draws. IN THE WORDS OF slices.Sort's CONTRACT ('Holds', 'putRow'): so the everyday 'slices.Sort(xs); xs = slices.Compact(xs)' goes from the one contract to the other. It asks 'zs.length ≤ cap' (every slice's: the reslicing 's[:k]' looks at it). Length 0, nil: '.._empty'. (LAID: no walk: one application.) -/
theorem Try.slices_Compact_int (blk off cap : Nat) (zs : List Int) (w : World) (hH : Holds (Value.int .i64) w blk off zs.toArray) (hsz : zs.length ≤ 9223372036854775807) (hcap : zs.length ≤ cap) :
    Calls Try.prog 39 #[.slice (some ⟨blk, off, none⟩) zs.length cap] w fun e w' => e = .returned (.slice (some ⟨blk, off, none⟩) (Lib.compact zs).length cap) ∧ ∃ q, w' = putRow (Value.int .i64) (Sort.ahead w q) blk off (Lib.compact zs ++ List.replicate (zs.length - (Lib.compact zs).length) 0).toArray := Any.slices_Compact_int Try.laysNm220 blk off cap zs w hH hsz hcap
open Go.RowKit Go.Lib Go.Sort in
/-- The same at a slice of length 0, a nil one too: it comes back as it is. (LAID: no walk: one application.) -/
theorem Try.slices_Compact_int_empty (a : Option Addr) (cap : Nat) (w : World) :
    Calls Try.prog 39 #[.slice a 0 cap] w fun e w' => e = .returned (.slice a 0 cap) ∧ w' = w := Any.slices_Compact_int_empty Try.laysNm220 a cap w
open Go.RowKit Go.Sort in
/-- .. and plain. (LAID: no walk: one application.) -/
theorem Try.slices_Sort_int_none (p : Option Addr) (cap : Nat) (w : World) :
    Calls Try.prog 62 #[.slice p 0 cap] w fun e w' => e = .returned (.tuple #[]) ∧ w' = w := Any.slices_Sort_int_none Try.lays189 p cap w
end Go.Proofs

/-
  Walks: slices.Sorted of slices.Values, Compact, Reverse.
-/
set_option linter.all false
namespace Go.Proofs.Ytfddebpeiilohaa
open Go Go.W Go.RowKit

/-! ### Compact -/
/-- the first i numbers, without those that equal the one before them -/
def cmpT (zs : List Int) : Nat → List Int
  | 0 => []
  | i + 1 => cmpT zs i ++ if 0 < i ∧ zs.getD i 0 = zs.getD (i - 1) 0 then [] else [zs.getD i 0]
theorem cmpT_len (zs : List Int) : ∀ i, (cmpT zs i).length ≤ i
  | 0 => by simp [cmpT]
  | i + 1 => by
    have := cmpT_len zs i
    rw [cmpT, List.length_append]; split <;> simp <;> omega
theorem cmpT_one (zs : List Int) : cmpT zs 1 = [zs.getD 0 0] := by simp [cmpT]
/-- nothing repeated among the first i -/
theorem cmpT_id {zs : List Int} : ∀ {i : Nat}, i ≤ zs.length → (∀ j, 0 < j → j < i → zs.getD j 0 ≠ zs.getD (j - 1) 0) → cmpT zs i = zs.take i
  | 0, _, _ => by simp [cmpT]
  | i + 1, hi, h => by
    rw [cmpT, cmpT_id (by omega) fun j h0 h1 => h j h0 (by omega), if_neg (fun hh => h i hh.1 (by omega) hh.2), List.take_succ_eq_append_getElem (show i < zs.length by omega), List.getD_eq_getElem?_getD, List.getElem?_eq_getElem (by omega)]; rfl
theorem getI {l : List Int} {k : Nat} (h : k < l.length) : l.getD k 0 = l[k] := by rw [List.getD_eq_getElem?_getD, List.getElem?_eq_getElem h]; rfl
set_option maxHeartbeats 2000000 in
theorem slCompact (g : Nat) (zs : List Int) (sp : List Value) (cap : Nat) (w0 : World) (H0 : SH w0 [g] w0 [⟨g, 3, zs.map I ++ sp⟩]) (hl : zs.length ≤ 100000) (hcap : zs.length ≤ cap) :
    Calls Try.prog 39 #[.slice (some ⟨g, 0, none⟩) zs.length cap] w0 fun e w' => ∃ sp', e = .returned (.slice (some ⟨g, 0, none⟩) (cmpT zs zs.length).length cap) ∧ SH w0 [g] w' [⟨g, 3, (cmpT zs zs.length).map I ++ sp'⟩] := by
  have H := H0
  have hcl : ∀ (cur : List Int) (w : World), SH w0 [g] w [⟨g, 3, cur.map I ++ sp⟩] → ∀ k (h : k < cur.length), w.cell? ⟨g, 0 + k, none⟩ = some (I cur[k]) := fun cur w H k hk => by
    obtain ⟨b, o, e, hc⟩ := OnesAt.own (enc := I) (l := cur) (post := sp) H 0 rfl rfl k hk
    cases e; exact hc
  refine Calls.ofWP Try.func39 rfl Try.results39 Try.ntmps39 rfl ?_
  refine WP.seq ?_
  refine WP.region ?_
  refine OPS.val rfl rfl rfl (Ev.asS rfl) ?_
  refine OPS.nil ?_
  refine WP.seq ?_
  refine WP.seq ?_
  refine WP.region ?_
  refine OPS.val rfl rfl rfl (Ev.mvS rfl) ?_
  refine OPS.val rfl rfl rfl (Ev.len (el_run rfl) rfl) ?_
  refine OPS.val rfl rfl rfl (Ev.lss rfl rfl) ?_
  refine OPS.nil ?_
  refine WP.cond rfl (fun hc1 => ?_) (fun hc1 => ?_)
  · refine WP.seq ?_
    refine WP.region ?_
    refine OPS.val rfl rfl rfl (Ev.mvS rfl) ?_
    refine OPS.val rfl rfl rfl (Ev.asS rfl) ?_
    refine OPS.nil ?_
    refine WP.ret ⟨_, rfl, ?_⟩
    have h : zs.length < 2 := by simp at hc1; omega
    have hid : cmpT zs zs.length = zs := by rw [cmpT_id (Nat.le_refl _) (fun j h0 h1 => by omega), List.take_length]
    rw [hid]
    exact ⟨sp, rfl, H⟩
  have h2 : 2 ≤ zs.length := by simp at hc1; omega
  refine WP.skip ?_
  refine WP.seq ?_
  refine WP.seq ?_
  refine WP.region ?_
  refine OPS.val rfl rfl rfl (Ev.asI rfl) ?_
  refine OPS.nil ?_
  refine WP.block ?_
  refine WP.loop [2, 3, 4, 5, 10, 11, 12, 13, 14, 15, 16, 17, 18, 19, 20, 21, 22, 23, 24, 25, 26, 27, 28, 29, 30, 31, 32, 33, 34, 35, 36, 37, 38, 39, 40, 41, 42, 43, 44, 45, 46, 47, 48, 49, 50, 51, 52, 53, 54, 55, 56, 57, 58, 59] (fun k e w' => ∃ (q : Nat), q + 1 + k = zs.length ∧ e 3 = I ((q + 1 : Nat) : Int) ∧ (∀ j, 0 < j → j < q + 1 → zs.getD j 0 ≠ zs.getD (j - 1) 0) ∧ SH w0 [g] w' [⟨g, 3, zs.map I ++ sp⟩]) ((zs.length - 1)) (⟨0, by omega, rfl, fun _ _ _ => by omega, H⟩) ?_
  clear H
  rintro k u w ⟨q, hk, h3, hall, H⟩
  refine WP.know (t := 3) h3 ?_
  refine WP.seq ?_
  refine WP.seq ?_
  refine WP.region ?_
  refine OPS.val rfl rfl rfl (Ev.mvI rfl) ?_
  refine OPS.val rfl rfl rfl (Ev.mvS rfl) ?_
  refine OPS.val rfl rfl rfl (Ev.len (el_run rfl) rfl) ?_
  refine OPS.val rfl rfl rfl (Ev.lss rfl rfl) ?_
  refine OPS.nil ?_
  refine WP.cond rfl (fun hc4 => ?_) (fun hc4 => ?_)
  · have hlt : q + 1 < zs.length := by simp at hc4; omega
    have hgq := getI (show q < zs.length by omega)
    have hgq1 := getI hlt
    refine WP.skip ?_
    refine WP.seq ?_
    refine WP.block ?_
    refine WP.seq ?_
    refine WP.rstill mixed (by kernel_rfl) H ?_
    clear H; intro w hbw6 H
    have hx := hcl zs w H (q + 1) hlt
    have hy := hcl zs w H q (by omega)
    refine OPS.val rfl rfl rfl (Ev.mvS rfl) ?_
    refine OPS.val rfl rfl rfl (Ev.mvI rfl) ?_
    refine OPS.val rfl rfl rfl ((by exact Ev.indexAddr1 (el_run rfl) (size_run rfl) rfl rfl rfl (by omega))) ?_
    refine OPS.val rfl rfl rfl (Ev.load1 (agg_run rfl) rfl (by assumption)) ?_
    refine OPS.val rfl rfl rfl (Ev.mvS rfl) ?_
    refine OPS.val rfl rfl rfl (Ev.mvI rfl) ?_
    refine OPS.val rfl rfl rfl (Ev.sub rfl rfl (by unfold fits; omega)) ?_
    rw [show (((q + 1 : Nat) : Int) - 1) = (q : Int) by omega]
    refine OPS.val rfl rfl rfl ((by exact Ev.indexAddr1 (el_run rfl) (size_run rfl) rfl rfl rfl (by omega))) ?_
    refine OPS.val rfl rfl rfl (Ev.load1 (agg_run rfl) rfl (by assumption)) ?_
    refine OPS.val rfl rfl rfl (Ev.eql rfl rfl) ?_
    refine OPS.nil_s ?_
    refine WP.cond rfl (fun hc6 => ?_) (fun hc6 => ?_)
    · have heq : zs[q + 1] = zs[q] := by simpa using hc6
      refine WP.seq ?_
      refine WP.region ?_
      refine OPS.val rfl rfl rfl (Ev.mvS rfl) ?_
      refine OPS.val rfl rfl rfl (Ev.mvI rfl) ?_
      refine OPS.val rfl rfl rfl (Ev.sliceFrom2 (j := q + 1) (el_run rfl) (size_run rfl) rfl rfl rfl (by omega) (by omega)) ?_
      refine OPS.val rfl rfl rfl (Ev.asS rfl) ?_
      refine OPS.nil ?_
      refine WP.seq ?_
      refine WP.seq ?_
      refine WP.region ?_
      refine OPS.val rfl rfl rfl (Ev.asI rfl) ?_
      refine OPS.nil ?_
      refine WP.block ?_
      refine WP.loop [3, 5, 29, 30, 31, 32, 33, 34, 35, 36, 37, 38, 39, 40, 41, 42, 43, 44, 45, 46, 47, 48, 49, 50, 51, 52, 53] (fun k e w' => ∃ (m i : Nat) (cur : List Int), i + 1 + k = zs.length ∧ e 5 = I ((i - q : Nat) : Int) ∧ q + 1 ≤ i ∧ m ≤ i ∧ e 3 = I m ∧ m = (cmpT zs (i + 1)).length ∧ cur.length = zs.length ∧ cur.take m = cmpT zs (i + 1) ∧ cur.drop i = zs.drop i ∧ SH w0 [g] w' [⟨g, 3, cur.map I ++ sp⟩]) ((zs.length - 1 - (q + 1))) (⟨q + 1, q + 1, zs, by omega, by rw [show q + 1 - q = 1 by omega]; rfl, by omega, by omega, rfl, by rw [cmpT, if_pos ⟨by omega, by rw [hgq1, show q + 1 - 1 = q by omega, hgq]; exact heq⟩, List.append_nil, cmpT_id (by omega) hall]; simp; omega, rfl, by rw [cmpT, if_pos ⟨by omega, by rw [hgq1, show q + 1 - 1 = q by omega, hgq]; exact heq⟩, List.append_nil, cmpT_id (by omega) hall], rfl, H⟩) ?_
      clear H
      rintro k2 u2 w ⟨m, i, cur, hk2, h5, hqi, hmi, h3', hml, hcl2, htk, hdr, H⟩
      refine WP.know (t := 5) h5 (WP.know (t := 3) h3' ?_)
      refine WP.seq ?_
      refine WP.seq ?_
      refine WP.region ?_
      refine OPS.val rfl rfl rfl (Ev.mvI rfl) ?_
      refine OPS.val rfl rfl rfl (Ev.mvS rfl) ?_
      refine OPS.val rfl rfl rfl (Ev.len (el_run rfl) rfl) ?_
      refine OPS.val rfl rfl rfl (Ev.lss rfl rfl) ?_
      refine OPS.nil ?_
      refine WP.cond rfl (fun hc9 => ?_) (fun hc9 => ?_)
      · have hlt2 : i + 1 < zs.length := by simp at hc9; omega
        have hgi := getI (show i < zs.length by omega)
        have hgi1 := getI hlt2
        have hci : cur[i]'(by omega) = zs[i] := by
          have := congrArg (fun l => l[0]?) hdr
          simp only [List.getElem?_drop, Nat.add_zero] at this
          rw [List.getElem?_eq_getElem (by omega), List.getElem?_eq_getElem (by omega)] at this
          exact Option.some.inj this
        have hci1 : cur[i + 1]'(by omega) = zs[i + 1] := by
          have := congrArg (fun l => l[1]?) hdr
          simp only [List.getElem?_drop] at this
          rw [List.getElem?_eq_getElem (by omega), List.getElem?_eq_getElem (by omega)] at this
          exact Option.some.inj this
        have hnx : cmpT zs (i + 1 + 1) = cmpT zs (i + 1) ++ if zs[i + 1] = zs[i] then [] else [zs[i + 1]] := by
          rw [cmpT, hgi1, show i + 1 - 1 = i by omega, hgi]
          by_cases hh : zs[i + 1] = zs[i]
          · rw [if_pos ⟨by omega, hh⟩, if_pos hh]
          · rw [if_neg (fun x => hh x.2), if_neg hh]
        have hiq : 0 + (q + 1) * 1 + (i - q) = 0 + (i + 1) := by omega
        have hiq2 : 0 + (q + 1) * 1 + (i - q - 1) = 0 + i := by omega
        refine WP.skip ?_
        refine WP.seq ?_
        refine WP.block ?_
        refine WP.seq ?_
        refine WP.rstill mixed (by kernel_rfl) H ?_
        clear H; intro w hbw11 H
        have hx := hcl cur w H (i + 1) (by omega)
        have hy := hcl cur w H i (by omega)
        rw [hci1, ← hiq] at hx
        rw [hci, ← hiq2] at hy
        refine OPS.val rfl rfl rfl (Ev.mvS rfl) ?_
        refine OPS.val rfl rfl rfl (Ev.mvI rfl) ?_
        refine OPS.val rfl rfl rfl ((by exact Ev.indexAddr1 (el_run rfl) (size_run rfl) rfl rfl rfl (by omega))) ?_
        refine OPS.val rfl rfl rfl (Ev.load1 (agg_run rfl) rfl (by assumption)) ?_
        refine OPS.val rfl rfl rfl (Ev.mvS rfl) ?_
        refine OPS.val rfl rfl rfl (Ev.mvI rfl) ?_
        refine OPS.val rfl rfl rfl (Ev.sub rfl rfl (by unfold fits; omega)) ?_
        rw [show (((i - q : Nat) : Int) - 1) = ((i - q - 1 : Nat) : Int) by omega]
        refine OPS.val rfl rfl rfl ((by exact Ev.indexAddr1 (el_run rfl) (size_run rfl) rfl rfl rfl (by omega))) ?_
        refine OPS.val rfl rfl rfl (Ev.load1 (agg_run rfl) rfl (by assumption)) ?_
        refine OPS.val rfl rfl rfl (Ev.neq rfl rfl) ?_
        refine OPS.nil_s ?_
        refine WP.cond rfl (fun hc11 => ?_) (fun hc11 => ?_)
        · refine WP.seq ?_
          have hne : zs[i + 1] ≠ zs[i] := by simpa using hc11
          rw [if_neg hne] at hnx
          have hx' := hcl cur w H (i + 1) (by omega)
          rw [hci1, ← hiq] at hx'
          refine WP.region ?_
          refine OPS.val rfl rfl rfl (Ev.mvS rfl) ?_
          refine OPS.val rfl rfl rfl (Ev.mvI rfl) ?_
          refine OPS.val rfl rfl rfl (Ev.mvS rfl) ?_
          refine OPS.val rfl rfl rfl (Ev.mvI rfl) ?_
          refine OPS.val rfl rfl rfl ((by exact Ev.indexAddr1 (el_run rfl) (size_run rfl) rfl rfl rfl (by omega))) ?_
          refine OPS.val rfl rfl rfl (Ev.load1 (agg_run rfl) rfl (by assumption)) ?_
          refine OPS.val rfl rfl rfl ((by exact Ev.indexAddr1 (el_run rfl) (size_run rfl) rfl rfl rfl (by omega))) ?_
          refine OPS.store (b := ⟨g, 3, cur.map I ++ sp⟩) 0 (0 + m) rfl rfl rfl (size_run rfl) rfl (cI (n := zs[i + 1]) rfl) rfl rfl H rfl (by simp; omega) ?_
          clear H; intro w H
          simp only [List.set_cons_zero] at H
          rw [Nat.zero_add, putL_pre (enc := I) cur sp m zs[i + 1] (by omega)] at H
          refine OPS.nil ?_
          refine WP.region ?_
          refine OPS.val rfl rfl rfl (Ev.mvI rfl) ?_
          refine OPS.val rfl rfl rfl (Ev.add rfl rfl (by unfold fits; omega)) ?_
          refine OPS.val rfl rfl rfl (Ev.asI rfl) ?_
          refine OPS.nil ?_
          refine WP.region ?_
          refine OPS.val rfl rfl rfl (Ev.mvI rfl) ?_
          refine OPS.val rfl rfl rfl (Ev.add rfl rfl (by unfold fits; omega)) ?_
          refine OPS.val rfl rfl rfl (Ev.asI rfl) ?_
          refine OPS.nil ?_
          first
            | exact ⟨(by repeat (first | exact Agree.refl _ _ | exact Agree.mix _ _ _ | refine Agree.upd rfl ?_ | refine Agree.mix2 rfl ?_)), k2 - 1, by omega, m, i + 1, cur, by omega, (by rw [show i + 1 - q = (i - q) + 1 by omega, Int.natCast_add]; rfl), by omega, by omega, rfl, by rw [hnx]; exact hml, hcl2, by rw [hnx]; exact htk, by rw [← List.drop_drop, ← List.drop_drop, hdr], H⟩
            | exact ⟨(by repeat (first | exact Agree.refl _ _ | exact Agree.mix _ _ _ | refine Agree.upd rfl ?_ | refine Agree.mix2 rfl ?_)), k2 - 1, by omega, m + 1, i + 1, cur.set m zs[i + 1], by omega, (by rw [show i + 1 - q = (i - q) + 1 by omega, Int.natCast_add]; rfl), by omega, by omega, rfl, by rw [hnx, List.length_append, ← hml]; rfl, by rw [List.length_set]; exact hcl2, by rw [hnx, List.take_succ_eq_append_getElem (by rw [List.length_set]; omega), List.take_set_of_le (Nat.le_refl _), htk, List.getElem_set_self], by rw [List.drop_set_of_lt (by omega), ← List.drop_drop, ← List.drop_drop, hdr], H⟩
        have heq2 : zs[i + 1] = zs[i] := by simpa using hc11
        rw [if_pos heq2, List.append_nil] at hnx
        refine WP.skip ?_
        refine WP.region ?_
        refine OPS.val rfl rfl rfl (Ev.mvI rfl) ?_
        refine OPS.val rfl rfl rfl (Ev.add rfl rfl (by unfold fits; omega)) ?_
        refine OPS.val rfl rfl rfl (Ev.asI rfl) ?_
        refine OPS.nil ?_
        first
          | exact ⟨(by repeat (first | exact Agree.refl _ _ | exact Agree.mix _ _ _ | refine Agree.upd rfl ?_ | refine Agree.mix2 rfl ?_)), k2 - 1, by omega, m, i + 1, cur, by omega, (by rw [show i + 1 - q = (i - q) + 1 by omega, Int.natCast_add]; rfl), by omega, by omega, rfl, by rw [hnx]; exact hml, hcl2, by rw [hnx]; exact htk, by rw [← List.drop_drop, ← List.drop_drop, hdr], H⟩
          | exact ⟨(by repeat (first | exact Agree.refl _ _ | exact Agree.mix _ _ _ | refine Agree.upd rfl ?_ | refine Agree.mix2 rfl ?_)), k2 - 1, by omega, m + 1, i + 1, cur.set m zs[i + 1], by omega, (by rw [show i + 1 - q = (i - q) + 1 by omega, Int.natCast_add]; rfl), by omega, by omega, rfl, by rw [hnx, List.length_append, ← hml]; rfl, by rw [List.length_set]; exact hcl2, by rw [hnx, List.take_succ_eq_append_getElem (by rw [List.length_set]; omega), List.take_set_of_le (Nat.le_refl _), htk, List.getElem_set_self], by rw [List.drop_set_of_lt (by omega), ← List.drop_drop, ← List.drop_drop, hdr], H⟩
      have hi : i + 1 = zs.length := by simp at hc9; omega
      rw [hi] at htk hml
      refine WP.exit ?_
      refine XB.hit ?_
      refine WP.seq ?_
      refine WP.region ?_
      refine OPS.val rfl rfl rfl (Ev.mvS rfl) ?_
      refine OPS.val rfl rfl rfl (Ev.mvI rfl) ?_
      refine OPS.val rfl rfl rfl (Ev.sliceFrom2 (j := m) (el_run rfl) (size_run rfl) rfl rfl rfl (by omega) (by omega)) ?_
      refine OPS.clear (b := ⟨g, 3, cur.map I ++ sp⟩) 0 (0 + m * 1) rfl rfl rfl (zs := [I 0]) (el_run rfl) (zero_run rfl) rfl (by decide) rfl rfl (by omega) H rfl (by simp; omega) ?_
      clear H; intro w H
      simp only [List.set_cons_zero] at H
      refine OPS.nil ?_
      refine WP.seq ?_
      refine WP.region ?_
      refine OPS.val rfl rfl rfl (Ev.mvS rfl) ?_
      refine OPS.val rfl rfl rfl (Ev.mvI rfl) ?_
      refine OPS.val rfl rfl rfl (Ev.sliceTo (j := m) (el_run rfl) ⟨1, size_run rfl⟩ rfl rfl rfl (by omega)) ?_
      refine OPS.val rfl rfl rfl (Ev.asS rfl) ?_
      refine OPS.nil ?_
      refine WP.ret ⟨_, rfl, ?_⟩
      refine ⟨(putL (cur.map I ++ sp) (0 + m * 1) (mkL (zs.length - m) [I 0])).drop m, by rw [← hml]; rfl, ?_⟩
      have hpt : ∀ (vs cs : List Value) (k : Nat), m ≤ k → (putL cs k vs).take m = cs.take m := fun vs => by
        induction vs with
        | nil => intro cs k _; rfl
        | cons v vs ih =>
          intro cs k hk
          rw [putL, ih _ _ (by omega), List.take_set_of_le (by omega)]
      have hfin : putL (cur.map I ++ sp) (0 + m * 1) (mkL (zs.length - m) [I 0]) = (cmpT zs zs.length).map I ++ (putL (cur.map I ++ sp) (0 + m * 1) (mkL (zs.length - m) [I 0])).drop m := by
        conv => lhs; rw [← List.take_append_drop m (putL (cur.map I ++ sp) (0 + m * 1) (mkL (zs.length - m) [I 0]))]
        rw [hpt _ _ _ (by omega), List.take_append_of_le_length (by simp; omega), ← List.map_take, htk]
      rw [← hfin]
      exact H
    have hne : zs[q + 1] ≠ zs[q] := by simpa using hc6
    refine WP.skip ?_
    refine WP.region ?_
    refine OPS.val rfl rfl rfl (Ev.mvI rfl) ?_
    refine OPS.val rfl rfl rfl (Ev.add rfl rfl (by unfold fits; omega)) ?_
    refine OPS.val rfl rfl rfl (Ev.asI rfl) ?_
    refine OPS.nil ?_
    exact ⟨(by repeat (first | exact Agree.refl _ _ | exact Agree.mix _ _ _ | refine Agree.upd rfl ?_ | refine Agree.mix2 rfl ?_)), k - 1, by omega, q + 1, by omega, rfl, (fun j h0 h1 => by
      by_cases hj : j < q + 1
      · exact hall j h0 hj
      · obtain rfl : j = q + 1 := by omega
        rw [hgq1, show q + 1 - 1 = q by omega, hgq]; exact hne), H⟩
  refine WP.exit ?_
  refine XB.hit ?_
  refine WP.seq ?_
  refine WP.region ?_
  refine OPS.val rfl rfl rfl (Ev.mvS rfl) ?_
  refine OPS.val rfl rfl rfl (Ev.asS rfl) ?_
  refine OPS.nil ?_
  refine WP.ret ⟨_, rfl, ?_⟩
  have hq : q + 1 = zs.length := by simp at hc4; omega
  have hid : cmpT zs zs.length = zs := by rw [cmpT_id (Nat.le_refl _) (fun j h0 h1 => hall j h0 (by omega)), List.take_length]
  rw [hid]
  exact ⟨sp, rfl, H⟩
theorem cmpT_mem {zs : List Int} : ∀ {i : Nat}, i ≤ zs.length → ∀ x, x ∈ cmpT zs i ↔ x ∈ zs.take i
  | 0, _, x => by simp [cmpT]
  | i + 1, hi, x => by
    have ih := cmpT_mem (zs := zs) (i := i) (by omega) x
    rw [cmpT, List.mem_append, ih, List.take_succ_eq_append_getElem (show i < zs.length by omega), List.mem_append, getI (show i < zs.length by omega)]
    by_cases hc : 0 < i ∧ zs[i] = zs.getD (i - 1) 0
    · rw [if_pos hc]
      simp only [List.not_mem_nil, or_false, List.mem_singleton]
      refine ⟨.inl, fun h => ?_⟩
      rcases h with h | h
      · exact h
      · rw [h, hc.2, getI (show i - 1 < zs.length by omega)]
        exact List.mem_take_iff_getElem.2 ⟨i - 1, by omega, rfl⟩
    · rw [if_neg hc]
theorem cmpT_sorted {zs : List Int} (hs : zs.Pairwise fun x y => x ≤ y) : ∀ {i : Nat}, i ≤ zs.length → (cmpT zs i).Pairwise fun x y => x < y
  | 0, _ => by simp [cmpT]
  | i + 1, hi => by
    rw [cmpT, List.pairwise_append]
    refine ⟨cmpT_sorted hs (by omega), by split <;> simp, fun x hx y hy => ?_⟩
    rw [cmpT_mem (by omega)] at hx
    split at hy
    · cases hy
    · rename_i hc
      rw [getI (show i < zs.length by omega)] at hc hy
      rw [List.mem_singleton.1 hy]
      obtain ⟨j, hj, rfl⟩ := List.mem_take_iff_getElem.1 hx
      have hp := List.pairwise_iff_getElem.1 hs
      have h1 : zs[j] ≤ zs[i - 1]'(by omega) := by
        by_cases hji : j = i - 1
        · subst hji; exact Int.le_refl _
        · exact hp j (i - 1) (by omega) (by omega) (by omega)
      have h2 : zs[i - 1]'(by omega) ≤ zs[i] := hp (i - 1) i (by omega) (by omega) (by omega)
      rw [getI (show i - 1 < zs.length by omega)] at hc
      have : ¬ zs[i] = zs[i - 1]'(by omega) := fun h => hc ⟨by omega, h⟩
      omega
def srt (l : List Int) : List Int := l.mergeSort fun x y => decide (x ≤ y)
theorem srt_perm (l : List Int) : (srt l).Perm l := List.mergeSort_perm l _
theorem srt_len (l : List Int) : (srt l).length = l.length := (srt_perm l).length_eq
theorem srt_sorted (l : List Int) : (srt l).Pairwise fun x y => x ≤ y := by
  have := List.pairwise_mergeSort (le := fun x y : Int => decide (x ≤ y)) (fun a b c h1 h2 => by simp at *; omega) (fun a b => by simp; omega) l
  exact this.imp fun h => by simpa using h
theorem sortOwn (g : Nat) (zs : List Int) (sp : List Value) (cap : Nat) (w0 : World) (hb : w0.heap[g]? = some (.cells (zs.map I ++ sp).toArray 3 (0, 0))) (hlen : zs.length ≤ 1000000) :
    Calls Try.prog 62 #[.slice (some ⟨g, 0, none⟩) zs.length cap] w0 fun e w' => e = .returned (.tuple #[]) ∧ SH w0 [g] w' [⟨g, 3, (srt zs).map I ++ sp⟩] := by
  have hg : g < w0.heap.size := (Array.getElem?_eq_some_iff.1 hb).1
  have hH : Sort.Holds (Value.int .i64) w0 g 0 zs.toArray := holds_of_blockI hb (by simp)
  refine (Try.slices_Sort_int g 0 cap zs w0 hH hg (by omega)).mono ?_
  rintro e w' ⟨rfl, n, os, rfl⟩
  have hgr := grownBy_sortedI (w := w0) (g := g) (n := n) (os := os) (srt zs).toArray
  have hh := heap_sortedI (w := w0) (n := n) (os := os) (srt zs).toArray hb
  have hl := srt_len zs
  have hcells : Sort.putCells (Value.int .i64) 0 (srt zs).toArray (zs.map I ++ sp).toArray = ((srt zs).map I ++ sp).toArray := by
    apply Array.ext_getElem?
    intro k
    simp only [Sort.putCells, Array.getElem?_mapIdx, List.getElem?_toArray]
    by_cases hk : k < zs.length
    · have h1 : k < (zs.map I).length := by simpa using hk
      have h2 : k < ((srt zs).map I).length := by simp; omega
      rw [List.getElem?_append_left h1, List.getElem?_append_left h2, List.getElem?_eq_getElem h1, List.getElem?_eq_getElem h2]
      simp [hl, hk, show k < (srt zs).length by omega]
    · rw [List.getElem?_append_right (by simp; omega), List.getElem?_append_right (by simp; omega)]
      simp only [List.length_map, hl]
      cases sp[k - zs.length]? with
      | none => rfl
      | some v => simp [hl, hk]
  rw [hcells] at hh
  exact ⟨rfl, hgr.os, hgr.tape, hgr.output, hgr.size, fun k hk hS => hgr.block k hk (by simp at hS; simpa using hS), fun b hb => by
    obtain rfl : b = ⟨g, 3, (srt zs).map I ++ sp⟩ := by simpa using hb
    exact hh, fun b hb => by
    obtain rfl : b = ⟨g, 3, (srt zs).map I ++ sp⟩ := by simpa using hb
    exact .inr (by simp), by simp⟩

/-! ### the values of a slice, sorted -/
theorem ints_it {w : World} {A : Option Addr} {l : List Int} (h : IntsAt w A l) : It.Ints w.heap.size w A l := by
  cases l with
  | nil => exact .inl rfl
  | cons x l =>
    obtain ⟨b, o, rfl, h0⟩ := h 0 (by simp)
    refine .inr ⟨b, o, rfl, World.block_lt_of_cell? w _ h0, fun j hj => ?_⟩
    obtain ⟨b', o', e, hc⟩ := h j hj
    cases e
    rw [List.getElem?_eq_getElem hj]
    exact hc
theorem slAppendSeq (g : Nat) (A : Option Addr) (l : List Int) (cap : Nat) (w0 : World) (hz : IntsAt w0 A l) (hl : l.length ≤ 1000) (hg : w0.heap[g]? = some (.cells #[.slice A l.length cap] 29 (0, 0))) :
    Calls Try.prog 72 #[.slice none 0 0, .func (.func 63) #[] #[.pointer (some ⟨g, 0, none⟩)]] w0 fun e w' => ∃ (A' : Option Addr) (c : Nat) (Lo : List Blk), e = .returned (.slice A' l.length c) ∧ OwnS A' c l.length (l.map I) 3 1 Lo ∧ SH w0 [] w' Lo := by
  have hlt : g < w0.heap.size := (Array.getElem?_eq_some_iff.1 hg).1
  refine (callsIn_wide.1 (It.appendSeq 3 (by omega) g A cap l (by unfold maxLen; omega) (by omega) w0 hlt (by simp [World.cell?, hg]) (ints_it hz))).mono ?_
  rintro e w' ⟨v, rfl, hO, _, hB⟩
  rcases hO.2 with ⟨rfl, h0⟩ | ⟨g', c, cur, rfl, h1, h2, h3, h4, h5, h6⟩
  · have : l = [] := List.eq_nil_of_length_eq_zero h0
    subst this
    exact ⟨none, 0, [], rfl, OwnS.nil, hB.os, hB.tape, hB.output, hB.size, fun k hk _ => hB.block k hk, by simp, by simp, by simp⟩
  · have hcur : cur.toList = l.map I ++ cur.toList.drop l.length := by
      have := List.take_append_drop l.length cur.toList
      rw [Nat.mul_one] at h6
      rw [h6] at this
      exact this.symm
    refine ⟨some ⟨g', 0, none⟩, c, [⟨g', 3, cur.toList⟩], rfl, ⟨by simp, .inr ⟨g', cur.toList.drop l.length, rfl, by rw [← hcur], h3, h4, by rw [← hcur]; simpa using h5⟩⟩, hB.os, hB.tape, hB.output, hB.size, fun k hk _ => hB.block k hk, fun b hb => ?_, fun b hb => ?_, by simp⟩
    · obtain rfl : b = ⟨g', 3, cur.toList⟩ := by simpa using hb
      simpa using h2
    · obtain rfl : b = ⟨g', 3, cur.toList⟩ := by simpa using hb
      exact .inl h1
theorem slCollect (g : Nat) (A : Option Addr) (l : List Int) (cap : Nat) (w0 : World) (hz : IntsAt w0 A l) (hl : l.length ≤ 1000) (hg : w0.heap[g]? = some (.cells #[.slice A l.length cap] 29 (0, 0))) :
    Calls Try.prog 61 #[.func (.func 63) #[] #[.pointer (some ⟨g, 0, none⟩)]] w0 fun e w' => ∃ (A' : Option Addr) (c : Nat) (Lo : List Blk), e = .returned (.slice A' l.length c) ∧ OwnS A' c l.length (l.map I) 3 1 Lo ∧ SH w0 [] w' Lo := by
  have H := SH.refl w0
  refine Calls.ofWP Try.func61 rfl Try.results61 Try.ntmps61 rfl ?_
  refine WP.seq ?_
  refine WP.region ?_
  refine OPS.val rfl rfl rfl (Ev.asS rfl) ?_
  refine OPS.nil ?_
  refine WP.seq ?_
  refine WP.region ?_
  refine OPS.val rfl rfl rfl (Ev.mvF rfl) ?_
  refine OPS.call (d := some 4) rfl rfl rfl (EvC.func (fun_run rfl)) (slAppendSeq g A l cap w0 hz hl hg) ?_
  rintro _ w ⟨A', c, Lo, rfl, hO, Hc⟩
  refine ⟨_, rfl, ?_⟩
  replace H := Hc
  refine OPS.val rfl rfl rfl (Ev.asS rfl) ?_
  refine OPS.nil ?_
  refine WP.ret ⟨_, rfl, ?_⟩
  exact ⟨A', c, Lo, rfl, hO, H⟩
theorem sortS (A : Option Addr) (c : Nat) (zs : List Int) (Lo : List Blk) (w0 : World) (hl : zs.length ≤ 1000) (hO : OwnS A c zs.length (zs.map I) 3 1 Lo) (H0 : SH w0 (Lo.map (·.g)) w0 Lo) :
    Calls Try.prog 62 #[.slice A zs.length c] w0 fun e w' => ∃ Lo', e = .returned (.tuple #[]) ∧ OwnS A c zs.length ((srt zs).map I) 3 1 Lo' ∧ SH w0 (Lo.map (·.g)) w' Lo' := by
  have hsl := srt_len zs
  rcases hO.form with ⟨rfl, h0, rfl, rfl⟩ | ⟨g, sp, rfl, rfl, h1, h2, h3⟩
  · have : zs = [] := List.eq_nil_of_length_eq_zero h0
    subst this
    refine (Try.slices_Sort_int_none none 0 w0).mono ?_
    rintro e w' ⟨rfl, rfl⟩
    exact ⟨[], rfl, ⟨by simp [srt], .inl ⟨rfl, rfl, rfl, rfl⟩⟩, H0⟩
  · refine (sortOwn g zs sp c w0 (H0.own ⟨g, 3, zs.map I ++ sp⟩ (by simp)) (by omega)).mono ?_
    rintro e w' ⟨rfl, Hc⟩
    exact ⟨_, rfl, ⟨by simp [hsl], .inr ⟨g, sp, rfl, rfl, h1, h2, by simpa [hsl] using h3⟩⟩, Hc⟩
theorem slSorted (g : Nat) (A : Option Addr) (l : List Int) (cap : Nat) (w0 : World) (hz : IntsAt w0 A l) (hl : l.length ≤ 1000) (hg : w0.heap[g]? = some (.cells #[.slice A l.length cap] 29 (0, 0))) :
    Calls Try.prog 37 #[.func (.func 63) #[] #[.pointer (some ⟨g, 0, none⟩)]] w0 fun e w' => ∃ (A' : Option Addr) (c : Nat) (Lo : List Blk), e = .returned (.slice A' l.length c) ∧ OwnS A' c l.length ((srt l).map I) 3 1 Lo ∧ SH w0 [] w' Lo := by
  have H := SH.refl w0
  refine Calls.ofWP Try.func37 rfl Try.results37 Try.ntmps37 rfl ?_
  refine WP.seq ?_
  refine WP.region ?_
  refine OPS.val rfl rfl rfl (Ev.asS rfl) ?_
  refine OPS.nil ?_
  refine WP.seq ?_
  refine WP.region ?_
  refine OPS.val rfl rfl rfl (Ev.mvF rfl) ?_
  refine OPS.call (d := some 5) rfl rfl rfl (EvC.func (fun_run rfl)) (slCollect g A l cap w0 hz hl hg) ?_
  rintro _ w ⟨A', c, Lo, rfl, hO, Hc⟩
  refine ⟨_, rfl, ?_⟩
  replace H := Hc
  clear Hc
  refine OPS.val rfl rfl rfl (Ev.asS rfl) ?_
  refine OPS.nil ?_
  refine WP.seq ?_
  refine WP.region ?_
  refine OPS.val rfl rfl rfl (Ev.mvS rfl) ?_
  refine OPS.call (d := some 7) rfl rfl rfl (EvC.func (fun_run rfl)) (sortS A' c l Lo w hl hO (H.restart (List.Sublist.refl _))) ?_
  rintro _ w ⟨Lo', rfl, hO', Hc⟩
  refine ⟨_, rfl, ?_⟩
  replace H := SH.call (L1 := []) (Lv := Lo) H Hc
  refine OPS.nil ?_
  refine WP.seq ?_
  refine WP.region ?_
  refine OPS.val rfl rfl rfl (Ev.mvS rfl) ?_
  refine OPS.val rfl rfl rfl (Ev.asS rfl) ?_
  refine OPS.nil ?_
  refine WP.ret ⟨_, rfl, ?_⟩
  exact ⟨A', c, Lo', rfl, hO', H⟩
theorem slValues (A : Option Addr) (n cap : Nat) (w0 : World) :
    Calls Try.prog 38 #[.slice A n cap] w0 fun e w' => ∃ g, e = .returned (.func (.func 63) #[] #[.pointer (some ⟨g, 0, none⟩)]) ∧ SH w0 [] w' [⟨g, 29, [.slice A n cap]⟩] := by
  have H := SH.refl w0
  refine Calls.ofWP Try.func38 rfl Try.results38 Try.ntmps38 rfl ?_
  refine WP.seq ?_
  refine WP.region ?_
  refine OPS.box rfl rfl rfl rfl (cS rfl) H ?_
  clear H; intro g1 w H
  refine OPS.val rfl rfl rfl (Ev.assign) ?_
  refine OPS.nil ?_
  refine WP.seq ?_
  refine WP.region ?_
  refine OPS.val rfl rfl rfl (Ev.makeFunc) ?_
  refine OPS.val rfl rfl rfl (Ev.asF rfl) ?_
  refine OPS.nil ?_
  refine WP.ret ⟨_, rfl, ?_⟩
  exact ⟨_, rfl, H⟩
end Go.Proofs.Ytfddebpeiilohaa

/-
  A slice that is nil, or fills a block of the call's own.
-/
set_option linter.all false
namespace Go.W
open Go.RowKit
def OwnL {α : Type} (T : TypeId) (enc : α → Value) (A : Option Addr) (l : List α) (L : List Blk) : Prop := (A = none ∧ l = [] ∧ L = []) ∨ ∃ g, A = some ⟨g, 0, none⟩ ∧ L = [⟨g, T, l.map enc⟩]
theorem OwnL.nil {α : Type} {T : TypeId} {enc : α → Value} : OwnL T enc none ([] : List α) [] := .inl ⟨rfl, rfl, rfl⟩
theorem OwnL.mk {α : Type} {T : TypeId} {enc : α → Value} (g : Nat) (l : List α) : OwnL T enc (some ⟨g, 0, none⟩) l [⟨g, T, l.map enc⟩] := .inr ⟨g, rfl, rfl⟩
theorem OwnL.rd {α : Type} {T : TypeId} {enc : α → Value} {A : Option Addr} {l : List α} {L L' : List Blk} {w0 w : World} {S : List Nat} (h : OwnL T enc A l L) (H : SH w0 S w L') (hs : ∀ b ∈ L, b ∈ L') : OnesAt enc w A l := by
  rcases h with ⟨rfl, rfl, rfl⟩ | ⟨g, rfl, rfl⟩
  · exact OnesAt.nil
  · intro k hk
    refine ⟨g, 0, rfl, ?_⟩
    obtain ⟨i, hi⟩ := List.getElem?_of_mem (hs ⟨g, T, l.map enc⟩ (by simp))
    rw [Nat.zero_add]
    refine H.ldL i hi k ?_
    show (l.map enc)[k]? = _
    rw [List.getElem?_map, List.getElem?_eq_getElem hk]; rfl
section
variable {P : Program} {N : Nat} {ops : Array Oper} {K : Env → World → Prop} {e : Env} {w w0 : World} {S : List Nat} {L : List Blk} {rest : List Oper} {o : Oper} {t : TypeId} {x y : Operand}
theorem append0_run {el sz n cap cx : Nat} {A Ax : Option Addr} {ty : TypeId} (hU : ∀ w, (underlying t).run P w = .ok (.slice el) w) (hs : ∀ w, (Go.sizeOf el).run P w = .ok sz w) (hle : n ≤ cap) (w : World) :
    (Builtin.append_ #[t, t] ty #[.slice A n cap, .slice Ax 0 cx]).run P w = .ok (.slice A n cap) w := by
  unfold Builtin.append_
  have hz : (loadCells · 0 : Addr → Sem (Array Value)) = fun _ => pure #[] := by funext a; rfl
  cases A <;> cases Ax <;> simp [hU, hs, Builtin.lenOf, Builtin.firstCells, hle, loadCells, loadCellsFrom, storeCells]
/-- as OPS.append; what is appended may also be nothing -/
theorem OPS.appendE {d el sz bt n m cap cx : Nat} {ty2 : Array TypeId} {A Ax : Option Addr} {zs xs news : List Value} {Lo R : List Blk} (hg : o.guard = none) (hd : o.dst = some d) (hN : Nat.blt d N = true)
    (hop : o.op = .call { callee := .builtin .append, args := #[x, y], argTypes := ty2 }) (hty : ty2 = #[t, t]) (hf : SlFact P t el sz bt zs)
    (hx : ev e x = .slice A n cap) (hy : ev e y = .slice Ax m cx) (hO : OwnS A cap n xs el sz Lo) (hl : news.length = m * sz) (hs : m = 0 ∨ ∃ b o, Ax = some ⟨b, o, none⟩ ∧ cellsAt w b o news) (h1 : (news.all (·.oneCell')) = true)
    (hbd : (n + m) * bt ≤ 140737488355328) (hbd2 : n + m ≤ maxLen) (H : SH w0 S w L) (hp : L.Perm (R ++ Lo))
    (h : ∀ A' cap' Lo' w', OwnS A' cap' (n + m) (xs ++ news) el sz Lo' → SH w0 S w' (R ++ Lo') → OPS P N .plain ops K rest (upd e d (.slice A' (n + m) cap')) w') : OPS P N .plain ops K (o :: rest) e w := by
  rcases hs with rfl | hs
  · have hn0 : news = [] := List.length_eq_zero_iff.1 (by rw [hl]; simp)
    subst hn0
    have hle : n ≤ cap := by rcases hO.form with ⟨_, q, _, _⟩ | ⟨_, _, _, _, q, _, _⟩ <;> omega
    have hsz : ∀ w, (Go.sizeOf el).run P w = .ok sz w := fun w => by
      obtain ⟨i, z, i1, i2, i3, i4, i5⟩ := hf.info
      have ht : (typeInfo el).run P w = .ok i w := by unfold typeInfo program; simp only [Sem.run_bind, Sem.run, Result.andThen_ok, i1, Sem.run_pure]
      unfold Go.sizeOf; simp only [Sem.run_bind, ht, Result.andThen_ok, i3, Sem.run_pure]
    refine OPS.act (v := .slice A n cap) (w' := w) hg hd hN ?_ (h A cap Lo w (by simpa using hO) (H.perm hp))
    unfold execOp; rw [hop, hty]
    simp only [resolve, Sem.run_bind, Sem.run_pure, Result.andThen_ok, invoke, builtin]
    have := append0_run (P := P) (t := t) (ty := o.type) (A := A) (Ax := Ax) (cx := cx) hf.undRun hsz hle w
    simp [hx, hy, this]
  · exact OPS.append hg hd hN hop hty hf hx hy hO hl hs h1 hbd hbd2 H hp h
end
end Go.W
