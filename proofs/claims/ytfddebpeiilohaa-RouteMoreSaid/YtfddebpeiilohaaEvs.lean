/-
  What single operations yield.
-/
import Derived.Test.YtfddebpeiilohaaOps
set_option linter.all false
namespace Go.W
open Go.RowKit

def cellsAt (w : World) (b : Nat) : Nat → List Value → Prop
  | _, [] => True
  | o, v :: vs => w.cell? ⟨b, o, none⟩ = some v ∧ cellsAt w b (o + 1) vs
theorem cellsAt_below {w w' : World} (hb : Below w.heap.size w w') {b : Nat} : ∀ {vs : List Value} {o : Nat}, cellsAt w b o vs → cellsAt w' b o vs
  | [], _, _ => trivial
  | _ :: _, _, h => ⟨cell_below hb h.1, cellsAt_below hb h.2⟩
theorem addr_add (b o n : Nat) : (⟨b, o, none⟩ : Addr).add n = ⟨b, o + n, none⟩ := by
  unfold Addr.add; split
  · rename_i h; subst h; rfl
  · rfl
theorem loadCellsFrom_at {P : Program} {w : World} {b o : Nat} : ∀ (vs : List Value) (i : Nat) (acc : Array Value), cellsAt w b (o + i) vs → (loadCellsFrom ⟨b, o, none⟩ i vs.length acc).run P w = .ok (acc ++ vs.toArray) w
  | [], i, acc, _ => by simp [loadCellsFrom, Sem.run_pure]
  | v :: vs, i, acc, h => by
    simp only [List.length_cons, loadCellsFrom, addr_add, Sem.run_bind, run_load, h.1, Result.andThen_ok]
    rw [loadCellsFrom_at vs (i + 1) (acc.push v) h.2]
    simp
theorem loadCells_at {P : Program} {w : World} {b o : Nat} (vs : List Value) (h : cellsAt w b o vs) : (loadCells ⟨b, o, none⟩ vs.length).run P w = .ok vs.toArray w := by
  unfold loadCells
  rw [loadCellsFrom_at vs 0 #[] h]
  simp

theorem l1 {a a' : Value} (h : a = a') : [a] = [a'] := by rw [h]
theorem l2 {a a' b b' : Value} (h : a = a') (h2 : b = b') : [a, b] = [a', b'] := by rw [h, h2]
theorem l3 {a a' b b' c c' : Value} (h : a = a') (h2 : b = b') (h3 : c = c') : [a, b, c] = [a', b', c'] := by rw [h, h2, h3]
theorem l4 {a a' b b' c c' d d' : Value} (h : a = a') (h2 : b = b') (h3 : c = c') (h4 : d = d') : [a, b, c, d] = [a', b', c', d'] := by rw [h, h2, h3, h4]
section
variable {P : Program} {e : Env} {w : World} {ty t : TypeId} {x y c i : Operand}
theorem Ev.move : Ev P e w ty (.move x) (ev e x) := ⟨fun w' _ o ho _ => by unfold execOp; rw [ho]; rfl⟩
theorem Ev.assign : Ev P e w ty (.assign x) (ev e x) := ⟨fun w' _ o ho _ => by unfold execOp; rw [ho]; rfl⟩
theorem gvE {b want : Bool} {v x : Value} (h : b = want) (hx : x = gv b want v) : x = v := by rw [hx, gv, h]; simp
theorem Ev.mvI {k : IntKind} {n : Int} (hx : ev e x = .int k n) : Ev P e w ty (.move x) (.int k n) := hx ▸ Ev.move
theorem Ev.mvB {b : Bool} (hx : ev e x = .bool b) : Ev P e w ty (.move x) (.bool b) := hx ▸ Ev.move
theorem Ev.mvS {A : Option Addr} {n c : Nat} (hx : ev e x = .slice A n c) : Ev P e w ty (.move x) (.slice A n c) := hx ▸ Ev.move
theorem Ev.mvP {A : Option Addr} (hx : ev e x = .pointer A) : Ev P e w ty (.move x) (.pointer A) := hx ▸ Ev.move
theorem Ev.mvA {vs : Array Value} (hx : ev e x = .agg vs) : Ev P e w ty (.move x) (.agg vs) := hx ▸ Ev.move
theorem Ev.mvF {fn : Fn} {a b : Array Value} (hx : ev e x = .func fn a b) : Ev P e w ty (.move x) (.func fn a b) := hx ▸ Ev.move
theorem Ev.mvT {vs : Array Value} (hx : ev e x = .tuple vs) : Ev P e w ty (.move x) (.tuple vs) := hx ▸ Ev.move
theorem Ev.asI {k : IntKind} {n : Int} (hx : ev e x = .int k n) : Ev P e w ty (.assign x) (.int k n) := hx ▸ Ev.assign
theorem Ev.asB {b : Bool} (hx : ev e x = .bool b) : Ev P e w ty (.assign x) (.bool b) := hx ▸ Ev.assign
theorem Ev.asS {A : Option Addr} {n c : Nat} (hx : ev e x = .slice A n c) : Ev P e w ty (.assign x) (.slice A n c) := hx ▸ Ev.assign
theorem Ev.asP {A : Option Addr} (hx : ev e x = .pointer A) : Ev P e w ty (.assign x) (.pointer A) := hx ▸ Ev.assign
theorem Ev.asA {vs : Array Value} (hx : ev e x = .agg vs) : Ev P e w ty (.assign x) (.agg vs) := hx ▸ Ev.assign
theorem Ev.asF {fn : Fn} {a b : Array Value} (hx : ev e x = .func fn a b) : Ev P e w ty (.assign x) (.func fn a b) := hx ▸ Ev.assign
theorem Ev.pick {b : Bool} (hc : ev e c = .bool b) : Ev P e w ty (.pick c x y) (if b = true then ev e x else ev e y) := ⟨fun w' _ o ho _ => by unfold execOp; rw [ho]; simp only [hc, asBool]; rfl⟩
theorem Ev.pickOr {b u : Bool} (hc : ev e c = .bool b) (hx : ev e x = .bool true) (hy : ev e y = gv b false (.bool u)) : Ev P e w ty (.pick c x y) (.bool (b || u)) := by
  have := Ev.pick (P := P) (w := w) (ty := ty) (x := x) (y := y) hc
  cases b <;> simpa [hx, hy, gv] using this
theorem Ev.pickAnd {b u : Bool} (hc : ev e c = .bool b) (hx : ev e x = gv b true (.bool u)) (hy : ev e y = .bool false) : Ev P e w ty (.pick c x y) (.bool (b && u)) := by
  have := Ev.pick (P := P) (w := w) (ty := ty) (x := x) (y := y) hc
  cases b <;> simpa [hx, hy, gv] using this
theorem Ev.load1 {a : Addr} {v : Value} (hA : ∀ w, (isAgg t).run P w = .ok false w) (ha : ev e x = .pointer (some a)) (hc : w.cell? a = some v) : Ev P e w ty (.load t x) v :=
  ⟨fun w' hb o ho _ => by
    unfold execOp; rw [ho]
    simp only [ha, Instr.loadAt, Instr.sureAddr, Sem.run_bind, Sem.run_pure, Result.andThen_ok, loadVar, hA, Bool.false_eq_true, if_false, run_load, cell_below hb hc]⟩
theorem Ev.loadN {b o : Nat} (vs : List Value) (hA : ∀ w, (isAgg t).run P w = .ok true w) (hn : ∀ w, (Go.sizeOf t).run P w = .ok vs.length w) (ha : ev e x = .pointer (some ⟨b, o, none⟩)) (hc : cellsAt w b o vs) :
    Ev P e w ty (.load t x) (.agg vs.toArray) :=
  ⟨fun w' hb o ho _ => by
    unfold execOp; rw [ho]
    simp only [ha, Instr.loadAt, Instr.sureAddr, Sem.run_bind, Sem.run_pure, Result.andThen_ok, loadVar, hA, if_true, hn, loadCells_at vs (cellsAt_below hb hc)]⟩
theorem cellsAt_own {w0 : World} {S : List Nat} {L : List Blk} (H : SH w0 S w L) (i : Nat) {g : Nat} {T : TypeId} {cs : List Value} (hi : L[i]? = some ⟨g, T, cs⟩) : ∀ (vs : List Value) (k : Nat), (∀ j (hj : j < vs.length), cs[k + j]? = some (vs[j]'hj)) → cellsAt w g k vs
  | [], _, _ => trivial
  | v :: vs, k, h => ⟨H.ldL i hi k (h 0 (Nat.zero_lt_succ _)), cellsAt_own H i hi vs (k + 1) fun j hj => by
      have := h (j + 1) (Nat.succ_lt_succ hj)
      rw [show k + 1 + j = k + (j + 1) by omega]
      exact this⟩
/-- a whole struct that fills a block of its own -/
theorem Ev.loadO {w0 : World} {S : List Nat} {L : List Blk} (i : Nat) {g n : Nat} {T : TypeId} {cs : List Value} (H : SH w0 S w L) (hi : L[i]? = some ⟨g, T, cs⟩) (hA : ∀ w, (isAgg t).run P w = .ok true w) (hn : ∀ w, (Go.sizeOf t).run P w = .ok n w) (hl : cs.length = n)
    (ha : ev e x = .pointer (some ⟨g, 0, none⟩)) : Ev P e w ty (.load t x) (.agg cs.toArray) :=
  Ev.loadN cs hA (fun w => by rw [hn, hl]) ha (cellsAt_own H i hi cs 0 fun j hj => by rw [Nat.zero_add]; exact List.getElem?_eq_getElem hj)
theorem Ev.fieldAddr {s k off b o : Nat} (hp : ∀ b o w, (Instr.fieldAt s (.pointer (some ⟨b, o, none⟩)) k).run P w = .ok (.pointer (some ⟨b, o + off, none⟩)) w) (ha : ev e x = .pointer (some ⟨b, o, none⟩)) :
    Ev P e w ty (.fieldAddr s x k) (.pointer (some ⟨b, o + off, none⟩)) :=
  ⟨fun w' _ o ho _ => by unfold execOp; rw [ho]; simp only [ha, Sem.run_bind, Sem.run_pure, Result.andThen_ok, hp]⟩
theorem fieldAt_run {s k off : Nat} {fs : Array Field} {f : Field} {n : Nat} (hU : ∀ w, (underlying s).run P w = .ok (.struct fs) w) (hf : fs[k]? = some f) (hs : ∀ w, (Go.sizeOf f.type).run P w = .ok n w) (hn : (n == 0) = false) (ho : f.offset = off) :
    ∀ b o w, (Instr.fieldAt s (.pointer (some ⟨b, o, none⟩)) k).run P w = .ok (.pointer (some ⟨b, o + off, none⟩)) w := by
  intro b o w
  subst ho
  have hn' : n ≠ 0 := by simpa using hn
  simp only [Instr.fieldAt, Sem.run_bind, hU, Result.andThen_ok, hf, Instr.sureAddr, Sem.run_pure, fieldPlace, hs, if_neg hn', addr_add]
theorem Ev.indexAddr {el sz b o n cap j : Nat} {k : IntKind} {ii : Int} (hU : ∀ w, (underlying t).run P w = .ok (.slice el) w) (hs : ∀ w, (Go.sizeOf el).run P w = .ok sz w)
    (hx : ev e x = .slice (some ⟨b, o, none⟩) n cap) (hi : ev e i = .int k ii) (hj : ii = (j : Int)) (hlt : j < n) : Ev P e w ty (.indexAddr t x i) (.pointer (some ⟨b, o + j * sz, none⟩)) :=
  ⟨fun w' _ o ho _ => by
    unfold execOp; rw [ho]
    subst hj
    have h1 : (0 : Int) ≤ (j : Int) ∧ (j : Int) < (n : Int) := ⟨by omega, by omega⟩
    simp only [hx, hi, Instr.indexAt, asIntOf, Sem.run_bind, Sem.run_pure, Result.andThen_ok, hU, if_pos h1, hs, Int.toNat_natCast, addr_add]⟩
theorem Ev.indexAddr1 {el b o n cap j : Nat} {k : IntKind} {ii : Int} (hU : ∀ w, (underlying t).run P w = .ok (.slice el) w) (hs : ∀ w, (Go.sizeOf el).run P w = .ok 1 w)
    (hx : ev e x = .slice (some ⟨b, o, none⟩) n cap) (hi : ev e i = .int k ii) (hj : ii = (j : Int)) (hlt : j < n) : Ev P e w ty (.indexAddr t x i) (.pointer (some ⟨b, o + j, none⟩)) := by
  have := Ev.indexAddr (P := P) (w := w) (ty := ty) (x := x) (i := i) hU hs hx hi hj hlt
  simpa using this
theorem Ev.indexAddrA {el sz b o n j : Nat} {k : IntKind} {ii : Int} (hU : ∀ w, (underlying t).run P w = .ok (.array n el) w) (hs : ∀ w, (Go.sizeOf el).run P w = .ok sz w)
    (hx : ev e x = .pointer (some ⟨b, o, none⟩)) (hi : ev e i = .int k ii) (hj : ii = (j : Int)) (hlt : j < n) : Ev P e w ty (.indexAddr t x i) (.pointer (some ⟨b, o + j * sz, none⟩)) :=
  ⟨fun w' _ o ho _ => by
    unfold execOp; rw [ho]
    subst hj
    have h1 : (0 : Int) ≤ (j : Int) ∧ (j : Int) < (n : Int) := ⟨by omega, by omega⟩
    simp only [hx, hi, Instr.indexAt, asIntOf, Sem.run_bind, Sem.run_pure, Result.andThen_ok, hU, if_pos h1, hs, Int.toNat_natCast, addr_add, Instr.sureAddr]⟩
theorem Ev.len {el n cap : Nat} {A : Option Addr} (hU : ∀ w, (underlying t).run P w = .ok (.slice el) w) (hx : ev e x = .slice A n cap) :
    Ev P e w ty (.call { callee := .builtin .len, args := #[x], argTypes := #[t] }) (.int .i64 n) :=
  ⟨fun w' _ o ho _ => by
    unfold execOp; rw [ho]
    simp [resolve, invoke, builtin, Builtin.len_, hx, hU, goInt]⟩
theorem Ev.extract {vs : Array Value} {k : Nat} {v : Value} (hx : ev e x = .tuple vs) (hv : vs[k]? = some v) : Ev P e w ty (.extract x k) v :=
  ⟨fun w' _ o ho _ => by unfold execOp; rw [ho]; simp [hx, Instr.extract, hv]⟩
theorem Ev.nilCheckP {a : Addr} (hx : ev e x = .pointer (some a)) : Ev P e w ty (.nilCheck x) (.pointer (some a)) := ⟨fun w' _ o ho _ => by unfold execOp; rw [ho]; simp [hx]⟩
theorem Ev.nilCheckF {f : FuncId} {a b : Array Value} (hx : ev e x = .func (.func f) a b) : Ev P e w ty (.nilCheck x) (.func (.func f) a b) := ⟨fun w' _ o ho _ => by unfold execOp; rw [ho]; simp [hx]⟩
theorem Ev.not {b : Bool} (hx : ev e x = .bool b) : Ev P e w ty (.unOp .not t x) (.bool (!b)) := ⟨fun w' _ o ho _ => by unfold execOp; rw [ho]; simp [hx, Op.unary]⟩
theorem Ev.makeFunc {fn : Fn} {first caps : List Operand} : Ev P e w ty (.makeFunc fn first.toArray caps.toArray) (.func fn (first.map (ev e)).toArray (caps.map (ev e)).toArray) :=
  ⟨fun w' _ o ho _ => by unfold execOp; rw [ho]; simp [Instr.makeFunc]⟩
theorem Ev.build {parts : List (Nat × Operand)} {v : Value} (hb : ∀ w', (Instr.build t (parts.map fun p => (p.1, ev e p.2)).toArray).run P w' = .ok v w') : Ev P e w ty (.build t parts.toArray) v :=
  ⟨fun w' _ o ho _ => by unfold execOp; rw [ho]; simp only [List.map_toArray, Sem.run_bind, hb, Result.andThen_ok, Sem.run_pure]⟩
theorem Ev.bin {op : BinOp} {t' : TypeId} {k : IntKind} {a b : Int} {v : Value} (hx : ev e x = .int k a) (hy : ev e y = .int k b) (hr : ∀ w, (binOp op t (.int k a) (.int k b)).run P w = .ok v w) : Ev P e w ty (.binOp op t x y t') v :=
  ⟨fun w' _ o ho _ => by unfold execOp; rw [ho]; cases op <;> simp only [hx, hy, eqGuard, Sem.run_bind, hr, Sem.run_pure] <;> simp⟩
theorem Ev.lss {t' : TypeId} {k : IntKind} {a b : Int} (hx : ev e x = .int k a) (hy : ev e y = .int k b) : Ev P e w ty (.binOp .lss t x y t') (.bool (decide (a < b))) := Ev.bin hx hy fun w => by simp [binOp, Op.intCmp]
theorem Ev.leq {t' : TypeId} {k : IntKind} {a b : Int} (hx : ev e x = .int k a) (hy : ev e y = .int k b) : Ev P e w ty (.binOp .leq t x y t') (.bool (decide (a ≤ b))) := Ev.bin hx hy fun w => by simp [binOp, Op.intCmp]
theorem Ev.gtr {t' : TypeId} {k : IntKind} {a b : Int} (hx : ev e x = .int k a) (hy : ev e y = .int k b) : Ev P e w ty (.binOp .gtr t x y t') (.bool (decide (b < a))) := Ev.bin hx hy fun w => by simp [binOp, Op.intCmp]
theorem Ev.geq {t' : TypeId} {k : IntKind} {a b : Int} (hx : ev e x = .int k a) (hy : ev e y = .int k b) : Ev P e w ty (.binOp .geq t x y t') (.bool (decide (b ≤ a))) := Ev.bin hx hy fun w => by simp [binOp, Op.intCmp]
theorem Ev.eql {t' : TypeId} {k : IntKind} {a b : Int} (hx : ev e x = .int k a) (hy : ev e y = .int k b) : Ev P e w ty (.binOp .eql t x y t') (.bool (decide (a = b))) := Ev.bin hx hy fun w => by simp [binOp, Op.intCmp]; rfl
theorem Ev.neq {t' : TypeId} {k : IntKind} {a b : Int} (hx : ev e x = .int k a) (hy : ev e y = .int k b) : Ev P e w ty (.binOp .neq t x y t') (.bool (!decide (a = b))) := Ev.bin hx hy fun w => by simp [binOp, Op.intCmp, bne]; rfl
def fits (n : Int) : Prop := -9223372036854775808 ≤ n ∧ n ≤ 9223372036854775807
theorem wrap_fits {n : Int} (h : fits n) : IntKind.i64.wrap n = n := IntWalk.i64_in n ⟨h.1, h.2⟩
theorem Ev.add {t' : TypeId} {a b : Int} (hx : ev e x = .int .i64 a) (hy : ev e y = .int .i64 b) (h : fits (a + b)) : Ev P e w ty (.binOp .add t x y t') (.int .i64 (a + b)) := Ev.bin hx hy fun w => by simp [binOp, Op.intArith, wrap_fits h]
theorem Ev.sub {t' : TypeId} {a b : Int} (hx : ev e x = .int .i64 a) (hy : ev e y = .int .i64 b) (h : fits (a - b)) : Ev P e w ty (.binOp .sub t x y t') (.int .i64 (a - b)) := Ev.bin hx hy fun w => by simp [binOp, Op.intArith, wrap_fits h]
theorem Ev.mul {t' : TypeId} {a b : Int} (hx : ev e x = .int .i64 a) (hy : ev e y = .int .i64 b) (h : fits (a * b)) : Ev P e w ty (.binOp .mul t x y t') (.int .i64 (a * b)) := Ev.bin hx hy fun w => by simp [binOp, Op.intArith, wrap_fits h]
theorem Ev.addw {t' : TypeId} {k : IntKind} {a b : Int} (hx : ev e x = .int k a) (hy : ev e y = .int k b) : Ev P e w ty (.binOp .add t x y t') (.int k (k.wrap (a + b))) := Ev.bin hx hy fun w => by simp [binOp, Op.intArith]
theorem Ev.subw {t' : TypeId} {k : IntKind} {a b : Int} (hx : ev e x = .int k a) (hy : ev e y = .int k b) : Ev P e w ty (.binOp .sub t x y t') (.int k (k.wrap (a - b))) := Ev.bin hx hy fun w => by simp [binOp, Op.intArith]
theorem Ev.mulw {t' : TypeId} {k : IntKind} {a b : Int} (hx : ev e x = .int k a) (hy : ev e y = .int k b) : Ev P e w ty (.binOp .mul t x y t') (.int k (k.wrap (a * b))) := Ev.bin hx hy fun w => by simp [binOp, Op.intArith]
theorem Ev.quo {t' : TypeId} {a b : Int} (hx : ev e x = .int .i64 a) (hy : ev e y = .int .i64 b) (h0 : 0 ≤ a) (h1 : a ≤ 9223372036854775807) (hb : 0 < b) : Ev P e w ty (.binOp .quo t x y t') (.int .i64 (a / b)) :=
  Ev.bin hx hy fun w => by
    have hb0 : b ≠ 0 := by omega
    have e1 : a.tdiv b = a / b := Int.tdiv_eq_ediv_of_nonneg h0
    have e2 : fits (a / b) := ⟨by have := Int.ediv_nonneg h0 (Int.le_of_lt hb); omega, by have := Int.ediv_le_self b h0; omega⟩
    simp [binOp, Op.intDiv, hb0, e1, wrap_fits e2]
theorem Ev.rem {t' : TypeId} {a b : Int} (hx : ev e x = .int .i64 a) (hy : ev e y = .int .i64 b) (h0 : 0 ≤ a) (hb : 0 < b) : Ev P e w ty (.binOp .rem t x y t') (.int .i64 (a % b)) :=
  Ev.bin hx hy fun w => by
    have hb0 : b ≠ 0 := by omega
    have e1 : a.tmod b = a % b := Int.tmod_eq_emod_of_nonneg h0
    simp [binOp, Op.intDiv, hb0, e1]
theorem Ev.neg {a : Int} (hx : ev e x = .int .i64 a) (h : fits (-a)) : Ev P e w ty (.unOp .neg t x) (.int .i64 (-a)) :=
  ⟨fun w' _ o ho _ => by
    unfold execOp; rw [ho]
    simp [hx, Op.unary, Op.intArith, wrap_fits h]⟩
theorem Ev.min {k : IntKind} {a b : Int} {tys : Array TypeId} (hx : ev e x = .int k a) (hy : ev e y = .int k b) : Ev P e w ty (.call { callee := .builtin .min, args := #[x, y], argTypes := tys }) (.int k (if b < a then b else a)) :=
  ⟨fun w' _ o ho _ => by unfold execOp; rw [ho]; simp [resolve, invoke, builtin, Builtin.min_, Builtin.min2, hx, hy]⟩
theorem Ev.max {k : IntKind} {a b : Int} {tys : Array TypeId} (hx : ev e x = .int k a) (hy : ev e y = .int k b) : Ev P e w ty (.call { callee := .builtin .max, args := #[x, y], argTypes := tys }) (.int k (if a < b then b else a)) :=
  ⟨fun w' _ o ho _ => by unfold execOp; rw [ho]; simp [resolve, invoke, builtin, Builtin.max_, Builtin.max2, hx, hy]⟩
theorem Ev.conv {s d : TypeId} {k k' : IntKind} {a : Int} (hs : ∀ w, (underlying s).run P w = .ok (.int k') w) (hd : ∀ w, (underlying d).run P w = .ok (.int k) w) (hx : ev e x = .int k' a) : Ev P e w ty (.convert s d x) (.int k (k.wrap a)) :=
  ⟨fun w' _ o ho _ => by unfold execOp; rw [ho]; simp [hx, convert, hs, hd, Conv.intToInt]⟩
/-- x[:j] -/
theorem Ev.sliceTo {el n cap j : Nat} {A : Option Addr} {k : IntKind} {ii : Int} (hU : ∀ w, (underlying t).run P w = .ok (.slice el) w) (hs : ∃ sz, ∀ w, (Go.sizeOf el).run P w = .ok sz w)
    (hx : ev e x = .slice A n cap) (hi : ev e i = .int k ii) (hj : ii = (j : Int)) (hle : j ≤ cap) : Ev P e w ty (.slice t x none (some i) none) (.slice A j cap) :=
  ⟨fun w' _ o ho _ => by
    unfold execOp; rw [ho]
    obtain ⟨sz, hs⟩ := hs
    subst hj
    have h1 : (0 : Int) ≤ (j : Int) ∧ (j : Int) ≤ (cap : Int) := ⟨by omega, by omega⟩
    have h2 : Option.map (fun x : Addr => x.add 0) A = A := by cases A <;> simp [Addr.add]
    simp only [Instr.sliceAt, Instr.slice, hx, Option.map_some, Option.map_none, hi, hU, Sem.run_bind, Sem.run_pure, Result.andThen_ok, Instr.sliceBounds, Instr.sliceBound, asIntOf, if_pos h1, hs, Int.toNat_natCast]
    simp [h2]⟩
/-- x[j:] -/
theorem Ev.sliceFrom {el n cap j sz : Nat} {A : Option Addr} {k : IntKind} {ii : Int} (hU : ∀ w, (underlying t).run P w = .ok (.slice el) w) (hs : ∀ w, (Go.sizeOf el).run P w = .ok sz w)
    (hx : ev e x = .slice A n cap) (hi : ev e i = .int k ii) (hj : ii = (j : Int)) (hle : j ≤ n) : Ev P e w ty (.slice t x (some i) none none) (.slice (if cap = j then A else A.map (·.add (j * sz))) (n - j) (cap - j)) :=
  ⟨fun w' _ o ho _ => by
    unfold execOp; rw [ho]
    subst hj
    have h1 : (0 : Int) ≤ (j : Int) ∧ (j : Int) ≤ (n : Int) := ⟨by omega, by omega⟩
    simp only [Instr.sliceAt, Instr.slice, hx, Option.map_some, Option.map_none, hi, hU, Sem.run_bind, Sem.run_pure, Result.andThen_ok, Instr.sliceBounds, Instr.sliceBound, asIntOf, if_pos h1, hs, Int.toNat_natCast]⟩

/-! ### calls -/
theorem EvC.func {f : FuncId} {args : List Operand} {tys : Array TypeId} (hc : ∀ (args : Array Value) (w : World), (callFunc f args).run P w = .ok (.enter f args) w) :
    EvC P e (.call { callee := .value (.func f), args := args.toArray, argTypes := tys }) f (args.map (ev e)) :=
  ⟨fun w o ho => by
    unfold execOp; rw [ho]
    simp [resolve, ev, Deferred.ofValue, invoke, hc]⟩
theorem EvC.conv {op : Op} {f : FuncId} {args args' : List Value} (h : EvC P e op f args) (ha : args = args') : EvC P e op f args' := ha ▸ h
theorem EvC.clos {f : FuncId} {g : Operand} {first caps : List Value} {args : List Operand} {tys : Array TypeId} (hg : ev e g = .func (.func f) first.toArray caps.toArray) (hc : ∀ (args : Array Value) (w : World), (callFunc f args).run P w = .ok (.enter f args) w) :
    EvC P e (.call { callee := .value g, args := args.toArray, argTypes := tys }) f (first ++ args.map (ev e) ++ caps) :=
  ⟨fun w o ho => by
    unfold execOp; rw [ho]
    simp [resolve, hg, Deferred.ofValue, invoke, hc]⟩
end

theorem cI {e : Env} {y : Operand} {k : IntKind} {n : Int} (h : ev e y = .int k n) : (ev e y).cells = [Value.int k n].toArray := by rw [h]; rfl
theorem cB {e : Env} {y : Operand} {b : Bool} (h : ev e y = .bool b) : (ev e y).cells = [Value.bool b].toArray := by rw [h]; rfl
theorem cS {e : Env} {y : Operand} {A : Option Addr} {n c : Nat} (h : ev e y = .slice A n c) : (ev e y).cells = [Value.slice A n c].toArray := by rw [h]; rfl
theorem cP {e : Env} {y : Operand} {A : Option Addr} (h : ev e y = .pointer A) : (ev e y).cells = [Value.pointer A].toArray := by rw [h]; rfl
theorem cF {e : Env} {y : Operand} {fn : Fn} {a b : Array Value} (h : ev e y = .func fn a b) : (ev e y).cells = [Value.func fn a b].toArray := by rw [h]; rfl
theorem cA {e : Env} {y : Operand} {vs : List Value} (h : ev e y = .agg vs.toArray) : (ev e y).cells = vs.toArray := by rw [h]; rfl

/-! ### operations that change the world -/
section
variable {P : Program} {N : Nat} {ops : Array Oper} {K : Env → World → Prop} {e : Env} {w w0 : World} {S : List Nat} {L : List Blk} {rest : List Oper} {o : Oper} {t : TypeId} {x y : Operand}
theorem OPS.know {m : Md} {t : Nat} {v : Value} {l : List Oper} (h : e t = v) (hw : OPS P N m ops K l (upd e t v) w) : OPS P N m ops K l e w := by rw [upd_same h] at hw; exact hw
theorem OPS.box {d : Nat} {cs : List Value} (hg : o.guard = none) (hd : o.dst = some d) (hN : Nat.blt d N = true) (hop : o.op = .box t x) (hx : (ev e x).cells = cs.toArray) (H : SH w0 S w L)
    (h : ∀ g w', SH w0 S w' (⟨g, t, cs⟩ :: L) → OPS P N .plain ops K rest (upd e d (.pointer (some ⟨g, 0, none⟩))) w') : OPS P N .plain ops K (o :: rest) e w :=
  OPS.act (v := .pointer (some ⟨w.heap.size, 0, none⟩)) (w' := w.alloc (.cells cs.toArray t)) hg hd hN (by unfold execOp; rw [hop]; simp [Instr.box, newVar, newRow, newObj, Sem.run, hx]) (h _ _ (H.alloc t cs))
theorem OPS.alloc {d : Nat} {z : Value} {cs : List Value} (hg : o.guard = none) (hd : o.dst = some d) (hN : Nat.blt d N = true) (hop : o.op = .alloc t) (hz : ∀ w, (zeroValue t).run P w = .ok z w) (hx : z.cells = cs.toArray) (H : SH w0 S w L)
    (h : ∀ g w', SH w0 S w' (⟨g, t, cs⟩ :: L) → OPS P N .plain ops K rest (upd e d (.pointer (some ⟨g, 0, none⟩))) w') : OPS P N .plain ops K (o :: rest) e w :=
  OPS.act (v := .pointer (some ⟨w.heap.size, 0, none⟩)) (w' := w.alloc (.cells cs.toArray t)) hg hd hN (by unfold execOp; rw [hop]; simp [Instr.alloc, hz, newVar, newRow, newObj, Sem.run, hx]) (h _ _ (H.alloc t cs))
def putL : List Value → Nat → List Value → List Value
  | cs, _, [] => cs
  | cs, k, v :: vs => putL (cs.set k v) (k + 1) vs
theorem putL_length : ∀ (vs cs : List Value) (k : Nat), (putL cs k vs).length = cs.length
  | [], _, _ => rfl
  | v :: vs, cs, k => by rw [putL, putL_length vs]; simp
theorem store_run {i : Nat} : ∀ (vs : List Value) (w : World) (L : List Blk) (b : Blk) (k j : Nat), SH w0 S w L → L[i]? = some b → k + j + vs.length ≤ b.cs.length → (vs.all (·.oneCell')) = true →
    ∃ w', (storeCells ⟨b.g, k, none⟩ vs j).run P w = .ok () w' ∧ SH w0 S w' (L.set i ⟨b.g, b.T, putL b.cs (k + j) vs⟩)
  | [], w, L, b, k, j, H, hi, _, _ => ⟨w, by simp [storeCells, Sem.run_pure], by
      have hlen : i < L.length := (List.getElem?_eq_some_iff.1 hi).1
      have hgi : L[i] = b := (List.getElem?_eq_some_iff.1 hi).2
      have : L.set i ⟨b.g, b.T, putL b.cs (k + j) []⟩ = L := by
        rw [show (⟨b.g, b.T, putL b.cs (k + j) []⟩ : Blk) = L[i] from by rw [hgi]; rfl, List.set_getElem_self]
      rw [this]; exact H⟩
  | v :: vs, w, L, b, k, j, H, hi, hk, h1 => by
    simp only [List.all_cons, Bool.and_eq_true] at h1
    simp only [List.length_cons] at hk
    have hlen : i < L.length := (List.getElem?_eq_some_iff.1 hi).1
    have hb : b ∈ L := List.mem_of_getElem? hi
    have H' := H.set i hi (k + j) v
    have hi' : (L.set i ⟨b.g, b.T, b.cs.set (k + j) v⟩)[i]? = some ⟨b.g, b.T, b.cs.set (k + j) v⟩ := by simp [hlen]
    obtain ⟨w', hr, H2⟩ := store_run vs _ _ ⟨b.g, b.T, b.cs.set (k + j) v⟩ k (j + 1) H' hi' (by simp; omega) h1.2
    refine ⟨w', ?_, ?_⟩
    · have hc : w.cell? ⟨b.g, k + j, none⟩ = some (b.cs[k + j]'(by omega)) := H.ldL i hi _ (List.getElem?_eq_getElem (by omega))
      have hf := H.notFrozen hb (k + j)
      simp only [storeCells, addr_add, Sem.run_bind]
      rw [run_store P w _ v .plain h1.1]
      simp only [hc, hf]
      simpa using hr
    · rw [List.set_set] at H2
      exact H2
/-- a store of one cell or more into a known block -/
theorem OPS.store {vs : List Value} {n : Nat} {b : Blk} (i k : Nat) (hg : o.guard = none) (hd : o.dst = none) (hop : o.op = .store t x y) (hs : ∀ w, (Go.sizeOf t).run P w = .ok n w) (hx : ev e x = .pointer (some ⟨b.g, k, none⟩))
    (hv : (ev e y).cells = vs.toArray) (hn : vs.length = n) (h1 : (vs.all (·.oneCell')) = true) (H : SH w0 S w L) (hi : L[i]? = some b) (hk : k + n ≤ b.cs.length)
    (h : ∀ w', SH w0 S w' (L.set i ⟨b.g, b.T, putL b.cs k vs⟩) → OPS P N .plain ops K rest e w') : OPS P N .plain ops K (o :: rest) e w := by
  obtain ⟨w', hr, H'⟩ := store_run (P := P) vs w L b k 0 H hi (by omega) h1
  refine OPS.actn (w' := w') hg hd ?_ (h w' H')
  unfold execOp; rw [hop]
  simp only [hx, Instr.storeAt, Instr.sureAddr, Sem.run_bind, Sem.run_pure, Result.andThen_ok, storeVar, hv, hs, List.size_toArray, hn, ne_eq, not_true_eq_false, if_false]
  simp [hr]
end
end Go.W
