/-
  Arguments, read: what the cells of a datum are, type by type.
-/
import Derived.Test.YtjgdklhbegplfaaGreatFacts
import Derived.Deep.Slices
import Derived.ChangeOld
import Derived.ProofKit
import Derived.OpenShut
set_option linter.all false
namespace Go.W
open Go.RowKit Go.Deep

theorem exists_list {α : Type} {p : Nat → α → Prop} : ∀ (n : Nat), (∀ i, i < n → ∃ a, p i a) → ∃ l : List α, l.length = n ∧ ∀ i (h : i < l.length), p i l[i]
  | 0, _ => ⟨[], rfl, fun i h => absurd h (by simp)⟩
  | n + 1, h => by
    obtain ⟨l, h1, h2⟩ := exists_list (p := p) n fun i hi => h i (by omega)
    obtain ⟨a, ha⟩ := h n (by omega)
    refine ⟨l ++ [a], by simp [h1], fun i hi => ?_⟩
    by_cases hl : i < l.length
    · rw [List.getElem_append_left hl]; exact h2 i hl
    · simp only [List.length_append, List.length_cons, List.length_nil] at hi
      obtain rfl : i = n := by omega
      rw [List.getElem_append_right (by omega)]
      simpa [h1] using ha
section
variable {H : Type} {enc : TypeId × Value → H} {P : Program} {w : World} {base : Nat} {spare : Nat → Bool} {held : Bool}
/-- a datum of type t is some 'a', whose cells are 'cells a', and G holds of it -/
structure Rd (enc : TypeId × Value → H) (P : Program) (w : World) (base : Nat) (spare : Nat → Bool) (held : Bool) (t : TypeId) {α : Type} (cells : α → List Value) (G : α → Prop) : Prop where
  out : ∀ fuel cs x, DataW.trod enc P w base spare held fuel t cs = some x → ∃ a, cs = cells a ∧ G a
theorem Rd.int {t : TypeId} {k : IntKind} (ht : P.underlying t = some (.int k)) : Rd enc P w base spare held t (fun n : Int => [.int k n]) (fun n => (Lit.int k n).wf = true) :=
  ⟨fun _ _ _ h => by obtain ⟨n, h1, _, h2⟩ := DataW.trod_int ht h; exact ⟨n, h1, h2⟩⟩
theorem Rd.bool {t : TypeId} (ht : P.underlying t = some .bool) : Rd enc P w base spare held t (fun b : Bool => [.bool b]) (fun _ => True) :=
  ⟨fun _ _ _ h => by obtain ⟨n, h1, _⟩ := DataW.trod_bool ht h; exact ⟨n, h1, trivial⟩⟩
theorem Rd.mono {t : TypeId} {α : Type} {cells : α → List Value} {G G' : α → Prop} (h : Rd enc P w base spare held t cells G) (hG : ∀ a, G a → G' a) : Rd enc P w base spare held t cells G' :=
  ⟨fun f cs x hx => by obtain ⟨a, h1, h2⟩ := h.out f cs x hx; exact ⟨a, h1, hG a h2⟩⟩
structure SlA (α : Type) where
  A : Option Addr
  cap : Nat
  l : List α
def slCells {α : Type} (s : SlA α) : List Value := [.slice s.A s.l.length s.cap]
structure SlG {α : Type} (w : World) (sz : Nat) (cells : α → List Value) (G : α → Prop) (s : SlA α) : Prop where
  rows : RowsAt sz cells w s.A s.l
  len : s.l.length ≤ maxLen
  all : ∀ a ∈ s.l, G a
  le : s.l.length ≤ s.cap
theorem cellsAt_of {b : Nat} : ∀ (vs : List Value) (o : Nat), (∀ j (h : j < vs.length), w.cell? ⟨b, o + j, none⟩ = some vs[j]) → cellsAt w b o vs
  | [], _, _ => trivial
  | v :: vs, o, h => ⟨h 0 (by simp), cellsAt_of vs (o + 1) fun j hj => by
      have := h (j + 1) (by simpa using hj)
      rw [show o + 1 + j = o + (j + 1) by omega]; exact this⟩
theorem Rd.slice {t e : TypeId} {sz : Nat} {α : Type} {cells : α → List Value} {G : α → Prop} (ht : P.underlying t = some (.slice e)) (hs : P.cellsOf e = sz) (h0 : 0 < sz) (he : Rd enc P w base spare held e cells G) :
    Rd enc P w base spare held t (slCells (α := α)) (SlG w sz cells G) := ⟨fun fuel cs x h => by
  rcases open_slice ht h with ⟨h1, _⟩ | ⟨a, len, cap, m, n, D, Pl, rfl, hb, hl, hm, hmm, _, hx⟩
  · exact ⟨⟨none, 0, []⟩, h1, ⟨RowsAt.nil, by simp, by simp, by simp⟩⟩
  · rw [hs] at hx
    have hlm : len ≤ m := by rw [hmm]; split <;> omega
    obtain ⟨l, h1, h2⟩ := exists_list (p := fun i (q : α) => G q ∧ w.cells? base (a.add (i * sz)) sz = some (cells q)) len fun i hi => by
      obtain ⟨cs', c1, c2⟩ := hx i (by omega)
      obtain ⟨q, rfl, hq⟩ := he.out _ _ _ c2
      exact ⟨q, hq, c1⟩
    refine ⟨⟨some a, cap, l⟩, by simp [slCells, h1], ⟨fun k hk => ?_, ?_, fun q hq => ?_, by show l.length ≤ cap; omega⟩⟩
    · have hk : k < l.length := hk
      obtain ⟨b, o, spot⟩ := a
      have hspot : spot = none := by
        obtain ⟨_, hlen, hc⟩ := World.cells?_some (h2 0 (by omega)).2
        have h3 := hc 0 h0
        rw [List.getElem?_eq_getElem (by omega)] at h3
        simpa [Addr.add] using World.cell?_spot h3
      subst hspot
      refine ⟨b, o, rfl, ?_⟩
      obtain ⟨_, hlen, hc⟩ := World.cells?_some (h2 k hk).2
      refine cellsAt_of _ _ fun j hj => ?_
      have hj : j < (cells l[k]).length := hj
      have h3 := hc j (by omega)
      rw [addr_add, addr_add] at h3
      rw [h3]; exact List.getElem?_eq_getElem hj
    · show l.length ≤ maxLen; omega
    · obtain ⟨i, hi, rfl⟩ := List.mem_iff_getElem.1 hq
      exact (h2 i hi).1⟩
theorem RowsAt.ones {α : Type} {f : α → Value} {A : Option Addr} {l : List α} (h : RowsAt 1 (fun a => [f a]) w A l) : OnesAt f w A l := fun k hk => by
  obtain ⟨b, o, h1, h2⟩ := h k hk
  exact ⟨b, o, h1, by simpa using h2.1⟩
/-- fields of a struct, from an offset on -/
structure RdF (enc : TypeId × Value → H) (P : Program) (w : World) (base : Nat) (spare : Nat → Bool) (held : Bool) (fs : List Field) (off tot : Nat) {α : Type} (cells : α → List Value) (G : α → Prop) : Prop where
  out : ∀ cs : List Value, cs.length = tot → (∀ (i : Nat) (f : Field), fs[i]? = some f → ∃ n x, DataW.trod enc P w base spare held n f.type ((cs.drop f.offset).take (P.cellsOf f.type)) = some x) → ∃ a, cs.drop off = cells a ∧ G a
theorem RdF.nil {off : Nat} : RdF enc P w base spare held [] off off (fun _ : Unit => []) (fun _ => True) := ⟨fun cs h _ => ⟨(), by rw [List.drop_eq_nil_of_le (by omega)], trivial⟩⟩
theorem RdF.cons {f : Field} {fs : List Field} {off tot sz : Nat} {α β : Type} {cA : α → List Value} {cB : β → List Value} {GA : α → Prop} {GB : β → Prop} {T : TypeId} (hA : Rd enc P w base spare held T cA GA) (hT : f.type = T) (ho : f.offset = off) (hs : P.cellsOf T = sz)
    (hB : RdF enc P w base spare held fs (off + sz) tot cB GB) : RdF enc P w base spare held (f :: fs) off tot (fun p : α × β => cA p.1 ++ cB p.2) (fun p => GA p.1 ∧ GB p.2) := ⟨fun cs hl h => by
  subst hT
  obtain ⟨n, x, hx⟩ := h 0 f rfl
  obtain ⟨a, ha, ga⟩ := hA.out _ _ _ hx
  obtain ⟨b, hb, gb⟩ := hB.out cs hl fun i f' hf => h (i + 1) f' (by simpa using hf)
  refine ⟨(a, b), ?_, ga, gb⟩
  rw [ho, hs] at ha
  simp only
  rw [← ha, ← hb, ← List.drop_drop, List.take_append_drop]⟩
theorem Rd.struct {t : TypeId} {fs : List Field} {tot : Nat} {α : Type} {cells : α → List Value} {G : α → Prop} (ht : P.underlying t = some (.struct fs.toArray)) (hs : P.cellsOf t = tot) (hF : RdF enc P w base spare held fs 0 tot cells G) : Rd enc P w base spare held t cells G := ⟨fun fuel cs x h => by
  obtain ⟨xs, n, _, _, hl, hxl, hx⟩ := DataW.trod_struct ht h
  obtain ⟨a, h1, h2⟩ := hF.out cs (by omega) fun i f hf => by
    have h3 := hx i f (by simpa using hf)
    have hi : i < fs.length := (List.getElem?_eq_some_iff.1 hf).1
    rw [List.getElem?_eq_getElem (by simp at hxl; omega)] at h3
    exact ⟨n, _, h3⟩
  exact ⟨a, by simpa using h1, h2⟩⟩
/-- an array of three elements of one cell -/
theorem Rd.array3 {t e : TypeId} {α : Type} {f : α → Value} {G : α → Prop} (ht : P.underlying t = some (.array 3 e)) (hs : P.cellsOf e = 1) (hc : P.cellsOf t = 3) (he : Rd enc P w base spare held e (fun a => [f a]) G) :
    Rd enc P w base spare held t (fun p : α × α × α => [f p.1, f p.2.1, f p.2.2]) (fun p => G p.1 ∧ G p.2.1 ∧ G p.2.2) := ⟨fun fuel cs x h => by
  obtain ⟨xs, m, _, _, hl, hxl, hx⟩ := DataW.trod_array ht h
  rw [hs] at hx
  have hl3 : cs.length = 3 := by rw [hl, hc]
  match cs, hl3 with
  | [c0, c1, c2], _ =>
    have g : ∀ i (hi : i < 3), ∃ a, (([c0, c1, c2] : List Value).drop (i * 1)).take 1 = [f a] ∧ G a := fun i hi => by
      have h3 := hx i hi
      rw [List.getElem?_eq_getElem (by omega)] at h3
      exact he.out _ _ _ h3
    obtain ⟨a0, h0, g0⟩ := g 0 (by omega)
    obtain ⟨a1, h1, g1⟩ := g 1 (by omega)
    obtain ⟨a2, h2, g2⟩ := g 2 (by omega)
    simp at h0 h1 h2
    subst h0 h1 h2
    exact ⟨(a0, a1, a2), rfl, g0, g1, g2⟩⟩
theorem okWide_array {r : Reach} {t e : TypeId} {n : Nat} {v : Value} (ht : P.underlying t = some (.array n e)) (h : Value.okWide P w r base t v) : ∃ cs, v = .agg cs ∧ cs.size = P.cellsOf t := by
  simp only [Value.okWide, ht] at h
  obtain ⟨cs, h1, h2, _⟩ := h
  exact ⟨cs, h1, h2⟩
theorem Rd.conv {t : TypeId} {α β : Type} {cells : α → List Value} {G : α → Prop} (h : Rd enc P w base spare held t cells G) (f : α → β) {cells' : β → List Value} {G' : β → Prop} (hc : ∀ a, cells a = cells' (f a)) (hG : ∀ a, G a → G' (f a)) : Rd enc P w base spare held t cells' G' :=
  ⟨fun fu cs x hx => by obtain ⟨a, h1, h2⟩ := h.out fu cs x hx; exact ⟨f a, h1.trans (hc a), hG a h2⟩⟩
/-- of an argument -/
theorem Rd.arg1 {t : TypeId} {α : Type} {f : α → Value} {G : α → Prop} {v : Value} {d : DataW H} {p : List MemPlace} (h : Rd enc P w base spare held t (fun a => [f a]) G) (hv : v.cells = #[v]) (ht : DataW.Trod enc P w base spare held t v d p) : ∃ a, v = f a ∧ G a := by
  obtain ⟨fuel, hf⟩ := ht
  obtain ⟨a, h1, h2⟩ := h.out _ _ _ hf
  rw [hv] at h1
  simp at h1
  exact ⟨a, h1, h2⟩
theorem Rd.argN {t : TypeId} {α : Type} {cells : α → List Value} {G : α → Prop} {vs : Array Value} {d : DataW H} {p : List MemPlace} (h : Rd enc P w base spare held t cells G) (ht : DataW.Trod enc P w base spare held t (.agg vs) d p) : ∃ a, vs = (cells a).toArray ∧ G a := by
  obtain ⟨fuel, hf⟩ := ht
  obtain ⟨a, h1, h2⟩ := h.out _ _ _ hf
  refine ⟨a, ?_, h2⟩
  have : vs.toList = cells a := by simpa [Value.cells] using h1
  rw [← this]
end
theorem wf_i64 {n : Int} (h : (Lit.int .i64 n).wf = true) : -9223372036854775808 ≤ n ∧ n ≤ 9223372036854775807 := by
  exact bounds_i64 h
end Go.W

/-
  Plain geometry: points, cross and scalar products; when a point lies on a segment, when an edge folds back, when two edges meet.
-/
set_option linter.all false
namespace Go.Proofs.YtjgdklhbegplfaaGreat
open Go Go.W Go.RowKit

structure Pt where
  x : Int
  y : Int
def crs (a b c : Pt) : Int := (b.x - a.x) * (c.y - a.y) - (b.y - a.y) * (c.x - a.x)
def dotp (a b c : Pt) : Int := (b.x - a.x) * (c.x - a.x) + (b.y - a.y) * (c.y - a.y)
def sgn (n : Int) : Int := if 0 < n then 1 else if n < 0 then -1 else 0
theorem sq_nn (a : Int) : 0 ≤ a * a := by
  rcases Int.le_total 0 a with h | h
  · exact Int.mul_nonneg h h
  · exact Int.mul_nonneg_of_nonpos_of_nonpos h h
theorem sq_pos {a : Int} (h : a ≠ 0) : 0 < a * a := by
  rcases Int.lt_or_gt_of_ne h with h | h
  · exact Int.mul_pos_of_neg_of_neg h h
  · exact Int.mul_pos h h
theorem mul_cases (a b : Int) : a * b ≤ 0 ↔ (a ≤ 0 ∧ 0 ≤ b) ∨ (0 ≤ a ∧ b ≤ 0) := by
  constructor
  · intro h
    rcases Int.lt_or_le 0 a with h1 | h1
    · right
      refine ⟨by omega, ?_⟩
      rcases Int.lt_or_le 0 b with h2 | h2
      · have := Int.mul_pos h1 h2; omega
      · exact h2
    · rcases Int.lt_or_le a 0 with h3 | h3
      · left
        refine ⟨h1, ?_⟩
        rcases Int.lt_or_le b 0 with h2 | h2
        · have := Int.mul_pos_of_neg_of_neg h3 h2; omega
        · exact h2
      · have : a = 0 := by omega
        omega
  · rintro (⟨h1, h2⟩ | ⟨h1, h2⟩)
    · exact Int.mul_nonpos_of_nonpos_of_nonneg h1 h2
    · exact Int.mul_nonpos_of_nonneg_of_nonpos h1 h2
theorem vec1 {ux uy vx vy : Int} (h : ux * vy = uy * vx) : ux * vx + uy * vy ≤ 0 ↔ ux * vx ≤ 0 ∧ uy * vy ≤ 0 := by
  refine ⟨fun hs => ?_, fun hs => by omega⟩
  have key : (ux * vx) * (uy * vy) = (ux * vy) * (ux * vy) := by grind
  have hsq := sq_nn (ux * vy)
  generalize ux * vx = p at *
  generalize uy * vy = q at *
  by_cases hp : 0 < p
  · have hq : q < 0 := by omega
    have := Int.mul_pos hp (show 0 < -q by omega)
    rw [Int.mul_neg] at this; omega
  · by_cases hq : 0 < q
    · have hp : p < 0 := by omega
      have := Int.mul_pos hq (show 0 < -p by omega)
      rw [Int.mul_neg, Int.mul_comm] at this; omega
    · omega
theorem btw (a b c : Int) : (a - c) * (b - c) ≤ 0 ↔ (if b < a then b else a) ≤ c ∧ c ≤ (if a < b then b else a) := by
  rw [mul_cases]; split <;> split <;> omega
/-- a point lies on a segment -/
def hasB (a b c : Pt) : Bool := decide (crs a b c = 0) && decide (dotp c a b ≤ 0)
theorem on_has (a b c : Pt) : ((((decide (crs a b c = 0) && decide ((if b.x < a.x then b.x else a.x) ≤ c.x)) && decide (c.x ≤ (if a.x < b.x then b.x else a.x))) && decide ((if b.y < a.y then b.y else a.y) ≤ c.y)) && decide (c.y ≤ (if a.y < b.y then b.y else a.y))) = hasB a b c := by
  unfold hasB
  by_cases h : crs a b c = 0
  · have h1 : (a.x - c.x) * (b.y - c.y) = (a.y - c.y) * (b.x - c.x) := by unfold crs at h; grind
    have h2 := vec1 h1
    have h3 := btw a.x b.x c.x
    have h4 := btw a.y b.y c.y
    have h5 : dotp c a b = (a.x - c.x) * (b.x - c.x) + (a.y - c.y) * (b.y - c.y) := rfl
    rw [← h5] at h2
    simp only [h, decide_true, Bool.true_and]
    generalize (a.x - c.x) * (b.x - c.x) = p at *
    generalize (a.y - c.y) * (b.y - c.y) = q at *
    rw [Bool.eq_iff_iff]
    simp only [Bool.and_eq_true, decide_eq_true_eq]
    rw [h2, h3, h4, and_assoc, and_assoc]
  · simp [h]
theorem has_iff {a b c : Pt} : hasB a b c = true ↔ crs a b c = 0 ∧ dotp c a b ≤ 0 := by unfold hasB; simp
theorem has_swap (a b c : Pt) : hasB a b c = hasB b a c := by
  rw [Bool.eq_iff_iff, has_iff, has_iff]
  have h1 : crs b a c = - crs a b c := by unfold crs; grind
  have h2 : dotp c b a = dotp c a b := by unfold dotp; grind
  rw [h1, h2]; omega
/-- an edge goes back on the one before it: b is the common corner -/
def foldB (a b d : Pt) : Bool := decide (crs a b d = 0) && decide (0 < dotp b a d)
theorem ne_sq {a b : Pt} (h : a ≠ b) : 0 < (a.x - b.x) * (a.x - b.x) + (a.y - b.y) * (a.y - b.y) := by
  by_cases hx : a.x = b.x
  · have hy : a.y - b.y ≠ 0 := fun hy => h (by cases a; cases b; simp at hx hy ⊢; omega)
    have := sq_pos hy
    have := sq_nn (a.x - b.x)
    omega
  · have := sq_pos (show a.x - b.x ≠ 0 by omega)
    have := sq_nn (a.y - b.y)
    omega
theorem fold_on {a b d : Pt} (hab : a ≠ b) (hdb : d ≠ b) : foldB a b d = (hasB b a d || hasB b d a) := by
  unfold foldB
  rw [Bool.eq_iff_iff, Bool.or_eq_true, has_iff, has_iff]
  simp only [Bool.and_eq_true, decide_eq_true_eq]
  have e1 : crs b a d = - crs a b d := by unfold crs; grind
  have e2 : crs b d a = crs a b d := by unfold crs; grind
  have e3 : dotp d b a = ((d.x - b.x) * (d.x - b.x) + (d.y - b.y) * (d.y - b.y)) - dotp b a d := by unfold dotp; grind
  have e4 : dotp a b d = ((a.x - b.x) * (a.x - b.x) + (a.y - b.y) * (a.y - b.y)) - dotp b a d := by unfold dotp; grind
  have p1 := ne_sq hab
  have p2 := ne_sq hdb
  have key : crs a b d = 0 → dotp b a d * dotp b a d = ((a.x - b.x) * (a.x - b.x) + (a.y - b.y) * (a.y - b.y)) * ((d.x - b.x) * (d.x - b.x) + (d.y - b.y) * (d.y - b.y)) := fun h => by
    have h1 : (a.x - b.x) * (d.y - b.y) = (a.y - b.y) * (d.x - b.x) := by unfold crs at h; grind
    unfold dotp
    generalize a.x - b.x = ux at *
    generalize a.y - b.y = uy at *
    generalize d.x - b.x = vx at *
    generalize d.y - b.y = vy at *
    have : (ux * vy) * (ux * vy) = (ux * vy) * (uy * vx) := by rw [← h1]
    grind
  rw [e1, e2, e3, e4]
  generalize (a.x - b.x) * (a.x - b.x) + (a.y - b.y) * (a.y - b.y) = U at *
  generalize (d.x - b.x) * (d.x - b.x) + (d.y - b.y) * (d.y - b.y) = V at *
  generalize dotp b a d = s at *
  generalize crs a b d = z at *
  constructor
  · rintro ⟨h0, hs⟩
    have := key h0
    by_cases hV : V ≤ s
    · left; omega
    · right
      refine ⟨h0, ?_⟩
      by_cases hU : U ≤ s
      · omega
      · exfalso
        have h1 : s * s < U * s := Int.mul_lt_mul_of_pos_right (by omega) hs
        have h2 : U * s < U * V := Int.mul_lt_mul_of_pos_left (by omega) p1
        omega
  · rintro (⟨h0, hs⟩ | ⟨h0, hs⟩) <;> omega
/-- two edges that need not be successive -/
def meetP (a b c d : Pt) : Bool := (hasB a b c || hasB a b d || hasB c d a || hasB c d b) || (!decide (sgn (crs a b c) = sgn (crs a b d)) && !decide (sgn (crs c d a) = sgn (crs c d b)))
def meetR (a b c d : Pt) : Bool := (hasB a b c || hasB a b d || hasB c d a || hasB c d b) || (decide (sgn (crs a b c) * sgn (crs a b d) < 0) && decide (sgn (crs c d a) * sgn (crs c d b) < 0))
theorem sgn_mul (p q : Int) : sgn p * sgn q < 0 ↔ (p < 0 ∧ 0 < q) ∨ (0 < p ∧ q < 0) := by
  unfold sgn; split <;> split <;> (try split) <;> (try split) <;> simp <;> omega
theorem sgn_eq (p q : Int) : sgn p = sgn q ↔ (0 < p ∧ 0 < q) ∨ (p < 0 ∧ q < 0) ∨ (p = 0 ∧ q = 0) := by
  unfold sgn; split <;> split <;> (try split) <;> (try split) <;> simp <;> omega
/-- c lies on the line of a, b, but not between them: a and b lie on the same side of every line through c -/
theorem same_side {a b c d : Pt} (h0 : crs a b c = 0) (hd : 0 < dotp c a b) : sgn (crs c d a) = sgn (crs c d b) := by
  have h1 : (a.x - c.x) * (b.y - c.y) = (a.y - c.y) * (b.x - c.x) := by unfold crs at h0; grind
  have hU : 0 < (a.x - c.x) * (a.x - c.x) + (a.y - c.y) * (a.y - c.y) := by
    refine ne_sq fun he => ?_
    subst he; simp [dotp] at hd
  have key : ((a.x - c.x) * (a.x - c.x) + (a.y - c.y) * (a.y - c.y)) * crs c d b = dotp c a b * crs c d a := by
    unfold crs dotp
    generalize a.x - c.x = ux at *
    generalize a.y - c.y = uy at *
    generalize b.x - c.x = vx at *
    generalize b.y - c.y = vy at *
    generalize d.x - c.x = wx at *
    generalize d.y - c.y = wy at *
    grind
  generalize (a.x - c.x) * (a.x - c.x) + (a.y - c.y) * (a.y - c.y) = U at *
  generalize dotp c a b = s at *
  generalize crs c d a = p at *
  generalize crs c d b = q at *
  rw [sgn_eq]
  rcases Int.lt_trichotomy p 0 with hp | hp | hp
  · have h2 : s * p < 0 := Int.mul_neg_of_pos_of_neg hd hp
    rw [← key] at h2
    have : q < 0 := by
      rcases Int.lt_or_le q 0 with h | h
      · exact h
      · have := Int.mul_nonneg (Int.le_of_lt hU) h; omega
    omega
  · subst hp
    rw [Int.mul_zero] at key
    have : q = 0 := by
      rcases Int.mul_eq_zero.1 key with h | h
      · omega
      · exact h
    omega
  · have h2 : 0 < s * p := Int.mul_pos hd hp
    rw [← key] at h2
    have : 0 < q := by
      rcases Int.lt_or_le 0 q with h | h
      · exact h
      · have := Int.mul_nonpos_of_nonneg_of_nonpos (Int.le_of_lt hU) h; omega
    omega
theorem meet_eq (a b c d : Pt) : meetP a b c d = meetR a b c d := by
  unfold meetP meetR
  cases hh : (hasB a b c || hasB a b d || hasB c d a || hasB c d b) with
  | true => rfl
  | false =>
    simp only [Bool.or_eq_false_iff] at hh
    obtain ⟨⟨⟨h1, h2⟩, h3⟩, h4⟩ := hh
    have nh : ∀ {p q r : Pt}, hasB p q r = false → crs p q r = 0 → 0 < dotp r p q := fun {p q r} hf h0 => by
      rcases Int.lt_or_le 0 (dotp r p q) with h | h
      · exact h
      · rw [has_iff.2 ⟨h0, h⟩] at hf; cases hf
    have r1 : crs d c a = - crs c d a := by unfold crs; grind
    have r2 : crs d c b = - crs c d b := by unfold crs; grind
    have r3 : crs b a c = - crs a b c := by unfold crs; grind
    have r4 : crs b a d = - crs a b d := by unfold crs; grind
    have k1 : crs a b c = 0 → sgn (crs c d a) = sgn (crs c d b) := fun h => same_side h (nh h1 h)
    have k2 : crs a b d = 0 → sgn (crs c d a) = sgn (crs c d b) := fun h => by
      have := same_side (d := c) h (nh h2 h)
      rw [r1, r2, sgn_eq] at this; rw [sgn_eq]; omega
    have k3 : crs c d a = 0 → sgn (crs a b c) = sgn (crs a b d) := fun h => same_side h (nh h3 h)
    have k4 : crs c d b = 0 → sgn (crs a b c) = sgn (crs a b d) := fun h => by
      have := same_side (d := a) h (nh h4 h)
      rw [r3, r4, sgn_eq] at this; rw [sgn_eq]; omega
    rw [Bool.false_or, Bool.false_or, Bool.eq_iff_iff]
    simp only [Bool.and_eq_true, Bool.not_eq_true', decide_eq_false_iff_not, decide_eq_true_eq, sgn_mul]
    rw [sgn_eq] at k1 k2 k3 k4
    rw [sgn_eq, sgn_eq]
    omega
end Go.Proofs.YtjgdklhbegplfaaGreat

/-
  Plain: polygons; the program's check and the reference's say the same.
-/
set_option linter.all false
namespace Go.Proofs.YtjgdklhbegplfaaGreat
open Go Go.W Go.RowKit

instance : Inhabited Pt := ⟨⟨0, 0⟩⟩
instance : DecidableEq Pt := fun a b => decidable_of_iff (a.x = b.x ∧ a.y = b.y) (by cases a; cases b; simp)
structure Edge' where
  a : Pt
  b : Pt
instance : Inhabited Edge' := ⟨⟨default, default⟩⟩
def ptOk (p : Pt) : Bool := decide (-16384 ≤ p.x) && decide (p.x ≤ 16384) && decide (-16384 ≤ p.y) && decide (p.y ≤ 16384)
def edgeAt (l : List Pt) (i : Nat) : Edge' := ⟨l.getD i default, l.getD ((i + 1) % l.length) default⟩
def edgesL (l : List Pt) : List Edge' := (List.range l.length).map (edgeAt l)
theorem edgesL_len (l : List Pt) : (edgesL l).length = l.length := by simp [edgesL]
theorem edgesL_get {l : List Pt} {i : Nat} (h : i < (edgesL l).length) : (edgesL l)[i] = edgeAt l i := by simp [edgesL]
/-- two edges that must not be so: k is less than i -/
def badP (n i k : Nat) (e f : Edge') : Bool := if k + 1 = i then foldB f.a f.b e.b else if k = 0 ∧ i + 1 = n then foldB e.a e.b f.b else meetP e.a e.b f.a f.b
def simpleB (E : List Edge') : Bool := (List.range E.length).all fun i => !decide ((E.getD i default).a = (E.getD i default).b) && (List.range i).all fun k => !badP E.length i k (E.getD i default) (E.getD k default)
/-- the reference's word; i is less than k -/
def apartB (n i k : Nat) (e f : Edge') : Bool := if k = i + 1 then !hasB e.b e.a f.b && !hasB e.b f.b e.a else if i = 0 ∧ k + 1 = n then !hasB e.a e.b f.a && !hasB e.a f.a e.b else !meetR e.a e.b f.a f.b
theorem meetP_symm (a b c d : Pt) : meetP a b c d = meetP c d a b := by
  unfold meetP
  generalize hasB a b c = p; generalize hasB a b d = q; generalize hasB c d a = r; generalize hasB c d b = s
  generalize decide (sgn (crs a b c) = sgn (crs a b d)) = u; generalize decide (sgn (crs c d a) = sgn (crs c d b)) = v
  cases p <;> cases q <;> cases r <;> cases s <;> cases u <;> cases v <;> rfl
/-- pair by pair the same, if no edge is a point -/
theorem pair_eq {l : List Pt} {i k : Nat} (h3 : 3 ≤ l.length) (hi : i < l.length) (hk : k < i) (d1 : (edgeAt l i).a ≠ (edgeAt l i).b) (d2 : (edgeAt l k).a ≠ (edgeAt l k).b) :
    badP l.length i k (edgeAt l i) (edgeAt l k) = !apartB l.length k i (edgeAt l k) (edgeAt l i) := by
  unfold badP apartB
  by_cases h1 : k + 1 = i
  · have e : (edgeAt l k).b = (edgeAt l i).a := by
      unfold edgeAt; simp only; rw [Nat.mod_eq_of_lt (by omega), h1]
    rw [if_pos h1, if_pos h1.symm, fold_on d2 (by rw [e]; exact d1.symm)]
    cases hasB (edgeAt l k).b (edgeAt l k).a (edgeAt l i).b <;> cases hasB (edgeAt l k).b (edgeAt l i).b (edgeAt l k).a <;> rfl
  · rw [if_neg h1, if_neg (show ¬ i = k + 1 by omega)]
    by_cases h2 : k = 0 ∧ i + 1 = l.length
    · rw [if_pos h2, if_pos h2]
      have e : (edgeAt l i).b = (edgeAt l k).a := by
        unfold edgeAt; simp only; rw [h2.2, Nat.mod_self, h2.1]
      have hf := fold_on (a := (edgeAt l i).a) (b := (edgeAt l i).b) (d := (edgeAt l k).b) d1 (by rw [e]; exact d2.symm)
      rw [hf, e]
      cases hasB (edgeAt l k).a (edgeAt l i).a (edgeAt l k).b <;> cases hasB (edgeAt l k).a (edgeAt l k).b (edgeAt l i).a <;> rfl
    · rw [if_neg h2, if_neg h2, ← meet_eq, meetP_symm, Bool.not_not]
def refSimple (l : List Pt) : Bool := (List.range l.length).all fun i => !decide ((edgeAt l i).a = (edgeAt l i).b) && (List.range l.length).all fun k => !(decide (i < k)) || apartB l.length i k (edgeAt l i) (edgeAt l k)
theorem edges_getD {l : List Pt} {i : Nat} (h : i < l.length) : (edgesL l).getD i default = edgeAt l i := by
  rw [List.getD_eq_getElem?_getD, List.getElem?_eq_getElem (by rw [edgesL_len]; exact h), edgesL_get]; rfl
theorem simple_eq {l : List Pt} (h3 : 3 ≤ l.length) : simpleB (edgesL l) = refSimple l := by
  rw [Bool.eq_iff_iff]
  unfold simpleB refSimple
  rw [List.all_eq_true, List.all_eq_true]
  simp only [edgesL_len, List.mem_range, Bool.and_eq_true, List.all_eq_true, Bool.not_eq_true', decide_eq_false_iff_not, Bool.or_eq_true]
  constructor
  · intro h i hi
    have h0 := h i hi
    rw [edges_getD hi] at h0
    refine ⟨h0.1, fun k hk => ?_⟩
    by_cases hik : i < k
    · right
      have h2 := h k hk
      rw [edges_getD hk] at h2
      have h4 := h2.2 i hik
      rw [edges_getD hi, pair_eq h3 hk hik h2.1 h0.1] at h4
      simpa using h4
    · exact .inl hik
  · intro h i hi
    have h0 := h i hi
    rw [edges_getD hi]
    refine ⟨h0.1, fun k hk => ?_⟩
    have h2 := h k (by omega)
    rw [edges_getD (show k < l.length by omega), pair_eq h3 hi hk h0.1 h2.1]
    rcases h2.2 i hi with h4 | h4
    · exact absurd hk h4
    · rw [h4]; rfl
def twiceL : List Edge' → Int
  | [] => 0
  | e :: l => (e.a.x * e.b.y - e.a.y * e.b.x) + twiceL l
def polyErr (l : List Pt) : Int := if l.length < 3 ∨ 32 < l.length then 3 else if l.all ptOk = false then 1 else if simpleB (edgesL l) = false then 16 else if twiceL (edgesL l) < 0 then 9 else 0
/-- does the ray to the right of c cross the edge? -/
def flipB (e : Edge') (c : Pt) : Bool := (!(decide (c.y < e.a.y) == decide (c.y < e.b.y))) && (decide (0 < crs e.a e.b c) == decide (e.a.y < e.b.y))
def whereV (c : Pt) : Int → List Edge' → Int
  | o, [] => o
  | o, e :: l => if hasB e.a e.b c = true then 0 else whereV c (if flipB e c = true then -o else o) l
def flipR (e : Edge') (c : Pt) : Bool := ((decide (e.a.y ≤ c.y) && decide (c.y < e.b.y)) && decide (0 < sgn (crs e.a e.b c))) || ((decide (e.b.y ≤ c.y) && decide (c.y < e.a.y)) && decide (sgn (crs e.a e.b c) < 0))
theorem sgn_pos (n : Int) : 0 < sgn n ↔ 0 < n := by unfold sgn; split <;> (try split) <;> omega
theorem sgn_neg (n : Int) : sgn n < 0 ↔ n < 0 := by unfold sgn; split <;> (try split) <;> omega
theorem flip_eq {e : Edge'} {c : Pt} (h : hasB e.a e.b c = false) : flipB e c = flipR e c := by
  unfold flipB flipR
  have h0 : crs e.a e.b c = 0 → e.b.y ≤ c.y → c.y < e.a.y → False := fun h0 h1 h2 => by
    have h5 : (e.a.x - c.x) * (e.b.y - c.y) = (e.a.y - c.y) * (e.b.x - c.x) := by unfold crs at h0; grind
    have hv : 0 < dotp c e.a e.b := by
      rcases Int.lt_or_le 0 (dotp c e.a e.b) with hh | hh
      · exact hh
      · rw [has_iff.2 ⟨h0, hh⟩] at h; cases h
    unfold dotp at hv
    have h4 : (e.a.y - c.y) * (e.b.y - c.y) ≤ 0 := Int.mul_nonpos_of_nonneg_of_nonpos (by omega) (by omega)
    have h6 : 0 < (e.a.x - c.x) * (e.b.x - c.x) := by omega
    -- (ax bx)(ay by) = (ax by)^2 >= 0
    have h7 : ((e.a.x - c.x) * (e.b.x - c.x)) * ((e.a.y - c.y) * (e.b.y - c.y)) = ((e.a.x - c.x) * (e.b.y - c.y)) * ((e.a.x - c.x) * (e.b.y - c.y)) := by
      rw [h5] ; grind
    have h8 := sq_nn ((e.a.x - c.x) * (e.b.y - c.y))
    by_cases hb : e.b.y = c.y
    · have h5' : (e.a.y - c.y) * (e.b.x - c.x) = 0 := by rw [← h5, hb]; simp
      rcases Int.mul_eq_zero.1 h5' with h5 | h5
      · omega
      · rw [h5] at h6; simp at h6
    · have h9 : (e.a.y - c.y) * (e.b.y - c.y) < 0 := Int.mul_neg_of_pos_of_neg (by omega) (by omega)
      have := Int.mul_neg_of_pos_of_neg h6 h9
      omega
  have s1 := sgn_pos (crs e.a e.b c)
  have s2 := sgn_neg (crs e.a e.b c)
  generalize sgn (crs e.a e.b c) = s at *
  generalize crs e.a e.b c = p at *
  rw [Bool.eq_iff_iff]
  simp only [Bool.and_eq_true, Bool.or_eq_true, decide_eq_true_eq, Bool.not_eq_true', beq_eq_false_iff_ne, ne_eq, beq_iff_eq, decide_eq_decide]
  by_cases q1 : c.y < e.a.y <;> by_cases q2 : c.y < e.b.y
  · simp [q1, q2]; try omega
  · have h0' : p ≠ 0 := fun h => h0 h (by omega) q1
    have q3 : ¬ e.a.y < e.b.y := by omega
    have q4 : e.b.y ≤ c.y := by omega
    simp [q1, q2, q3, q4]; omega
  · simp [q1, q2]; try omega
  · simp [q1, q2]; try omega
/-- the distance of a point from an edge, less r, times something -/
def cmpV (a b c : Pt) (r : Int) : Int := if dotp a b c ≤ 0 then dotp c a a - r * r else if dotp a b b ≤ dotp a b c then dotp c b b - r * r else crs a b c * crs a b c - r * r * dotp a b b
def leastV (c : Pt) (r : Int) : Int → List Edge' → Int
  | m, [] => m
  | m, e :: l => leastV c r (if sgn (cmpV e.a e.b c r) < m then sgn (cmpV e.a e.b c r) else m) l
theorem leastV_le {c : Pt} {r : Int} : ∀ {l : List Edge'} {m k : Int}, leastV c r m l ≤ k ↔ m ≤ k ∨ ∃ e ∈ l, sgn (cmpV e.a e.b c r) ≤ k
  | [], m, k => by simp [leastV]
  | e :: l, m, k => by
    rw [leastV, leastV_le]
    simp only [List.mem_cons, exists_eq_or_imp]
    split <;> constructor <;> intro h <;> grind
theorem sgn_le0 (n : Int) : sgn n ≤ 0 ↔ n ≤ 0 := by unfold sgn; split <;> (try split) <;> omega
theorem sgn_leN (n : Int) : sgn n ≤ -1 ↔ n < 0 := by unfold sgn; split <;> (try split) <;> omega
def touchV (l : List Pt) (c : Pt) (r : Int) : Bool := decide (0 ≤ whereV c (-1) (edgesL l)) || decide (leastV c r 1 (edgesL l) ≤ 0)
def coverV (l : List Pt) (c : Pt) (r : Int) : Bool := decide (0 ≤ whereV c (-1) (edgesL l)) && decide (0 ≤ leastV c r 1 (edgesL l))
theorem touch_ref (l : List Pt) (c : Pt) (r : Int) : touchV l c r = (decide (0 ≤ whereV c (-1) (edgesL l)) || (edgesL l).any fun e => decide (cmpV e.a e.b c r ≤ 0)) := by
  unfold touchV
  congr 1
  rw [Bool.eq_iff_iff, decide_eq_true_eq, leastV_le, List.any_eq_true]
  simp only [sgn_le0, decide_eq_true_eq]
  constructor
  · rintro (h | h)
    · omega
    · exact h
  · exact .inr
theorem cover_ref (l : List Pt) (c : Pt) (r : Int) : coverV l c r = (decide (0 ≤ whereV c (-1) (edgesL l)) && !((edgesL l).any fun e => decide (cmpV e.a e.b c r < 0))) := by
  unfold coverV
  congr 1
  rw [Bool.eq_iff_iff, decide_eq_true_eq, Bool.not_eq_true', List.any_eq_false]
  have := leastV_le (c := c) (r := r) (l := edgesL l) (m := 1) (k := -1)
  simp only [sgn_leN] at this
  simp only [decide_eq_true_eq]
  constructor
  · intro h e he hc
    have := this.2 (.inr ⟨e, he, hc⟩); omega
  · intro h
    rcases Int.lt_or_le (leastV c r 1 (edgesL l)) 0 with h1 | h1
    · rcases this.1 (by omega) with h2 | ⟨e, he, hc⟩
      · omega
      · exact absurd hc (h e he)
    · exact h1
/-- with a greater radius -/
theorem cmpV_mono {a b c : Pt} {r r' : Int} (h0 : 0 ≤ r) (h : r ≤ r') : cmpV a b c r' ≤ cmpV a b c r := by
  have h1 : r * r ≤ r' * r' := Int.mul_le_mul h h h0 (by omega)
  unfold cmpV
  split
  · omega
  · split
    · omega
    · rename_i h2 h3
      have := Int.mul_le_mul_of_nonneg_right h1 (show 0 ≤ dotp a b b by omega)
      omega
theorem touch_mono {l : List Pt} {c : Pt} {r r' : Int} (h0 : 0 ≤ r) (h : r ≤ r') (ht : touchV l c r = true) : touchV l c r' = true := by
  rw [touch_ref, Bool.or_eq_true] at ht ⊢
  rcases ht with ht | ht
  · exact .inl ht
  · right
    rw [List.any_eq_true] at ht ⊢
    obtain ⟨e, he, hc⟩ := ht
    exact ⟨e, he, by have := cmpV_mono (a := e.a) (b := e.b) (c := c) h0 h; simp at hc ⊢; omega⟩
theorem cover_mono {l : List Pt} {c : Pt} {r r' : Int} (h0 : 0 ≤ r) (h : r ≤ r') (ht : coverV l c r' = true) : coverV l c r = true := by
  rw [cover_ref, Bool.and_eq_true, Bool.not_eq_true', List.any_eq_false] at ht ⊢
  refine ⟨ht.1, fun e he hc => ht.2 e he ?_⟩
  have := cmpV_mono (a := e.a) (b := e.b) (c := c) h0 h
  simp at hc ⊢; omega
theorem cover_touch {l : List Pt} {c : Pt} {r : Int} (h : coverV l c r = true) : touchV l c r = true := by
  unfold coverV at h
  unfold touchV
  rw [Bool.and_eq_true] at h
  rw [h.1]; rfl
end Go.Proofs.YtjgdklhbegplfaaGreat

/-
  Plain: a segment that meets no edge of a polygon does not change on which side of it one is; a disc that is covered, or not touched, is not met by edges.
-/
set_option linter.all false
namespace Go.Proofs.YtjgdklhbegplfaaGreat
open Go Go.W Go.RowKit

theorem same_sign {x y : Int} (h : 0 < x * y) : (x < 0 ∧ y < 0) ∨ (0 < x ∧ 0 < y) := by
  have := mul_cases x y
  omega
theorem col0 {ux uy vx vy : Int} (h : ux * vy = uy * vx) (hd : 0 < ux * vx + uy * vy) : (uy < 0 ∧ vy < 0) ∨ (0 < uy ∧ 0 < vy) ∨ (uy = 0 ∧ vy = 0 ∧ ((ux < 0 ∧ vx < 0) ∨ (0 < ux ∧ 0 < vx))) := by
  by_cases hu : uy = 0
  · subst hu
    rw [Int.zero_mul] at h hd
    rcases Int.mul_eq_zero.1 h with h0 | h0
    · subst h0; rw [Int.zero_mul] at hd; omega
    · have := same_sign (x := ux) (y := vx) (by omega)
      omega
  · by_cases hv : vy = 0
    · subst hv
      rw [Int.mul_zero] at h hd
      rcases Int.mul_eq_zero.1 h.symm with h0 | h0
      · exact absurd h0 hu
      · subst h0; rw [Int.mul_zero] at hd; omega
    · by_cases hs : 0 < uy * vy
      · have := same_sign hs; omega
      · exfalso
        have hne : uy * vy ≠ 0 := fun h0 => by
          rcases Int.mul_eq_zero.1 h0 with h1 | h1
          · exact hu h1
          · exact hv h1
        have key : (ux * vx) * (uy * vy) = (ux * vy) * (ux * vy) := by
          have : (ux * vx) * (uy * vy) = (ux * vy) * (uy * vx) := by grind
          rw [this, ← h]
        have hq := sq_nn (ux * vy)
        have := Int.mul_neg_of_pos_of_neg (show 0 < ux * vx by omega) (show uy * vy < 0 by omega)
        omega
/-- on the line, but not on the segment -/
theorem col {p q a : Pt} (hn : hasB p q a = false) (h0 : crs p q a = 0) : (p.y < a.y ∧ q.y < a.y) ∨ (a.y < p.y ∧ a.y < q.y) ∨ (p.y = a.y ∧ q.y = a.y ∧ ((p.x < a.x ∧ q.x < a.x) ∨ (a.x < p.x ∧ a.x < q.x))) := by
  have hd : 0 < dotp a p q := by
    rcases Int.lt_or_le 0 (dotp a p q) with h | h
    · exact h
    · rw [has_iff.2 ⟨h0, h⟩] at hn; cases hn
  have h1 : (p.x - a.x) * (q.y - a.y) = (p.y - a.y) * (q.x - a.x) := by unfold crs at h0; grind
  unfold dotp at hd
  have := col0 h1 hd
  omega
theorem core_LM {A B P Q ay bY py qy : Int} (i1 : P * (qy - ay) - Q * (py - ay) + A * (bY - ay) = 0) (i2 : P * (qy - bY) - Q * (py - bY) + B * (bY - ay) = 0) (h1 : py ≤ ay) (h2 : ay < qy) (h3 : qy ≤ bY)
    (n5 : ¬ (((A < 0 ∧ 0 < B) ∨ (0 < A ∧ B < 0)) ∧ ((P < 0 ∧ 0 < Q) ∨ (0 < P ∧ Q < 0)))) (hA : 0 < A) (hQ : 0 < Q) : False := by
  have a1 := Int.mul_pos hA (show 0 < bY - ay by omega)
  have q1 := Int.mul_nonpos_of_nonneg_of_nonpos (show 0 ≤ Q by omega) (show py - ay ≤ 0 by omega)
  have hP : P < 0 := by
    rcases Int.lt_or_le P 0 with h | h
    · exact h
    · have := Int.mul_nonneg h (show 0 ≤ qy - ay by omega); omega
  have hB : 0 ≤ B := by omega
  have p2 := Int.mul_nonneg_of_nonpos_of_nonpos (show P ≤ 0 by omega) (show qy - bY ≤ 0 by omega)
  have q2 := Int.mul_neg_of_pos_of_neg hQ (show py - bY < 0 by omega)
  have b2 := Int.mul_nonneg hB (show 0 ≤ bY - ay by omega)
  omega
theorem core_MU {A B P Q ay bY py qy : Int} (i1 : P * (qy - ay) - Q * (py - ay) + A * (bY - ay) = 0) (i2 : P * (qy - bY) - Q * (py - bY) + B * (bY - ay) = 0) (h1 : ay < py) (h2 : py ≤ bY) (h3 : bY < qy)
    (n5 : ¬ (((A < 0 ∧ 0 < B) ∨ (0 < A ∧ B < 0)) ∧ ((P < 0 ∧ 0 < Q) ∨ (0 < P ∧ Q < 0)))) (hB : 0 < B) (hP : 0 < P) : False := by
  have p2 := Int.mul_pos hP (show 0 < qy - bY by omega)
  have b2 := Int.mul_pos hB (show 0 < bY - ay by omega)
  have hQ : Q < 0 := by
    rcases Int.lt_or_le Q 0 with h | h
    · exact h
    · have := Int.mul_nonpos_of_nonneg_of_nonpos h (show py - bY ≤ 0 by omega); omega
  have hA : 0 ≤ A := by omega
  have p1 := Int.mul_pos hP (show 0 < qy - ay by omega)
  have q1 := Int.mul_neg_of_neg_of_pos hQ (show 0 < py - ay by omega)
  have a1 := Int.mul_nonneg hA (show 0 ≤ bY - ay by omega)
  omega
theorem core_LU {A B P Q ay bY py qy : Int} (i0 : A + P = B + Q) (i1 : P * (qy - ay) - Q * (py - ay) + A * (bY - ay) = 0) (i2 : P * (qy - bY) - Q * (py - bY) + B * (bY - ay) = 0) (h1 : py ≤ ay) (h2 : ay ≤ bY) (h3 : bY < qy)
    (n5 : ¬ (((A < 0 ∧ 0 < B) ∨ (0 < A ∧ B < 0)) ∧ ((P < 0 ∧ 0 < Q) ∨ (0 < P ∧ Q < 0)))) (hD : P = 0 → py = ay → bY = ay → False) (hA : 0 < A) (hB : B < 0) : False := by
  rcases Int.lt_or_le P 0 with hP | hP
  · have hQ : Q ≤ 0 := by omega
    have p2 := Int.mul_neg_of_neg_of_pos hP (show 0 < qy - bY by omega)
    have q2 := Int.mul_nonneg_of_nonpos_of_nonpos hQ (show py - bY ≤ 0 by omega)
    have b2 := Int.mul_nonpos_of_nonpos_of_nonneg (show B ≤ 0 by omega) (show 0 ≤ bY - ay by omega)
    omega
  · have hQ : 0 < Q := by omega
    have p1 := Int.mul_nonneg hP (show 0 ≤ qy - ay by omega)
    have q1 := Int.mul_nonpos_of_nonneg_of_nonpos (show 0 ≤ Q by omega) (show py - ay ≤ 0 by omega)
    have a1 := Int.mul_nonneg (show 0 ≤ A by omega) (show 0 ≤ bY - ay by omega)
    refine hD ?_ ?_ ?_
    · rcases Int.mul_eq_zero.1 (show P * (qy - ay) = 0 by omega) with h | h
      · exact h
      · omega
    · rcases Int.mul_eq_zero.1 (show Q * (py - ay) = 0 by omega) with h | h <;> omega
    · rcases Int.mul_eq_zero.1 (show A * (bY - ay) = 0 by omega) with h | h <;> omega
theorem core_MM {A B P Q ay bY py qy : Int} (i0 : A + P = B + Q) (i1 : P * (qy - ay) - Q * (py - ay) + A * (bY - ay) = 0) (i2 : P * (qy - bY) - Q * (py - bY) + B * (bY - ay) = 0) (h1 : ay < py) (h2 : py ≤ qy) (h3 : qy ≤ bY)
    (n5 : ¬ (((A < 0 ∧ 0 < B) ∨ (0 < A ∧ B < 0)) ∧ ((P < 0 ∧ 0 < Q) ∨ (0 < P ∧ Q < 0)))) (hD : B = 0 → py = bY → qy = bY → False) (hP : P < 0) (hQ : 0 < Q) : False := by
  rcases Int.lt_or_le B 0 with hB | hB
  · have hA : A ≤ 0 := by omega
    have p1 := Int.mul_neg_of_neg_of_pos hP (show 0 < qy - ay by omega)
    have q1 := Int.mul_pos hQ (show 0 < py - ay by omega)
    have a1 := Int.mul_nonpos_of_nonpos_of_nonneg hA (show 0 ≤ bY - ay by omega)
    omega
  · have p2 := Int.mul_nonneg_of_nonpos_of_nonpos (show P ≤ 0 by omega) (show qy - bY ≤ 0 by omega)
    have q2 := Int.mul_nonpos_of_nonneg_of_nonpos (show 0 ≤ Q by omega) (show py - bY ≤ 0 by omega)
    have b2 := Int.mul_nonneg hB (show 0 ≤ bY - ay by omega)
    refine hD ?_ ?_ ?_
    · rcases Int.mul_eq_zero.1 (show B * (bY - ay) = 0 by omega) with h | h
      · exact h
      · omega
    · rcases Int.mul_eq_zero.1 (show Q * (py - bY) = 0 by omega) with h | h <;> omega
    · rcases Int.mul_eq_zero.1 (show P * (qy - bY) = 0 by omega) with h | h <;> omega
theorem flip_swap {p q c : Pt} (hn : hasB p q c = false) : flipB ⟨q, p⟩ c = flipB ⟨p, q⟩ c := by
  have hc := col hn
  have e : crs q p c = - crs p q c := by unfold crs; grind
  unfold flipB
  simp only [e]
  generalize crs p q c = z at *
  rw [Bool.eq_iff_iff]
  simp only [Bool.and_eq_true, Bool.not_eq_true', beq_eq_false_iff_ne, ne_eq, beq_iff_eq, decide_eq_decide]
  omega
/-- right of the segment from a to b, at its height -/
def inR (a b p : Pt) : Bool := decide (a.y < p.y) && decide (p.y ≤ b.y) && decide (crs a b p < 0)
set_option maxHeartbeats 1000000 in
theorem par1 {a b p q : Pt} (hab : a.y ≤ b.y) (hpq : p.y ≤ q.y) (hm : meetR p q a b = false) : xor (flipB ⟨p, q⟩ a) (flipB ⟨p, q⟩ b) = xor (inR a b p) (inR a b q) := by
  unfold meetR at hm
  simp only [Bool.or_eq_false_iff] at hm
  obtain ⟨⟨⟨⟨n1, n2⟩, n3⟩, n4⟩, n5⟩ := hm
  replace n5 : ¬ (((crs p q a < 0 ∧ 0 < crs p q b) ∨ (0 < crs p q a ∧ crs p q b < 0)) ∧ ((crs a b p < 0 ∧ 0 < crs a b q) ∨ (0 < crs a b p ∧ crs a b q < 0))) := by
    rw [← sgn_mul, ← sgn_mul]; simpa using n5
  replace n1 := col n1
  replace n2 := col n2
  replace n3 := col n3
  replace n4 := col n4
  have i0 : crs p q a + crs a b p = crs p q b + crs a b q := by unfold crs; grind
  have i1 : crs a b p * (q.y - a.y) - crs a b q * (p.y - a.y) + crs p q a * (b.y - a.y) = 0 := by unfold crs; grind
  have i2 : crs a b p * (q.y - b.y) - crs a b q * (p.y - b.y) + crs p q b * (b.y - a.y) = 0 := by unfold crs; grind
  have f1 : p.y = a.y → crs p q a = (q.y - p.y) * (p.x - a.x) := fun h => by unfold crs; rw [h]; grind
  have f2 : p.y = b.y → crs p q b = (q.y - p.y) * (p.x - b.x) := fun h => by unfold crs; rw [h]; grind
  have f3 : p.y = b.y → crs a b p = (b.y - a.y) * (b.x - p.x) := fun h => by unfold crs; rw [h]; grind
  have f4 : q.y = b.y → crs a b q = (b.y - a.y) * (b.x - q.x) := fun h => by unfold crs; rw [h]; grind
  unfold flipB inR
  simp only
  generalize crs p q a = A at *
  generalize crs p q b = B at *
  generalize crs a b p = P at *
  generalize crs a b q = Q at *
  have i0' : -A + -P = -B + -Q := by omega
  have i1' : -P * (q.y - a.y) - -Q * (p.y - a.y) + -A * (b.y - a.y) = 0 := by rw [Int.neg_mul, Int.neg_mul, Int.neg_mul]; omega
  have i2' : -P * (q.y - b.y) - -Q * (p.y - b.y) + -B * (b.y - a.y) = 0 := by rw [Int.neg_mul, Int.neg_mul, Int.neg_mul]; omega
  have n5' : ¬ (((-A < 0 ∧ 0 < -B) ∨ (0 < -A ∧ -B < 0)) ∧ ((-P < 0 ∧ 0 < -Q) ∨ (0 < -P ∧ -Q < 0))) := by omega
  have dLU : P = 0 → p.y = a.y → b.y = a.y → b.y < q.y → (0 < A ↔ 0 < B) := fun h1 h2 h3 h4 => by
    have n3 := n3 h1
    rw [f1 h2, f2 (by omega)]
    have hw : 0 < q.y - p.y := by omega
    have hx : (0 < p.x - a.x ∧ 0 < p.x - b.x) ∨ (p.x - a.x < 0 ∧ p.x - b.x < 0) := by omega
    rcases hx with ⟨h5, h6⟩ | ⟨h5, h6⟩
    · have := Int.mul_pos hw h5; have := Int.mul_pos hw h6; omega
    · have := Int.mul_neg_of_pos_of_neg hw h5; have := Int.mul_neg_of_pos_of_neg hw h6; omega
  have dMM : B = 0 → p.y = b.y → q.y = b.y → a.y < b.y → (P < 0 ↔ Q < 0) := fun h1 h2 h3 h4 => by
    have n2 := n2 h1
    rw [f3 h2, f4 h3]
    have hw : 0 < b.y - a.y := by omega
    have hx : (0 < b.x - p.x ∧ 0 < b.x - q.x) ∨ (b.x - p.x < 0 ∧ b.x - q.x < 0) := by omega
    rcases hx with ⟨h5, h6⟩ | ⟨h5, h6⟩
    · have := Int.mul_pos hw h5; have := Int.mul_pos hw h6; omega
    · have := Int.mul_neg_of_pos_of_neg hw h5; have := Int.mul_neg_of_pos_of_neg hw h6; omega
  have kLM : p.y ≤ a.y → a.y < q.y → q.y ≤ b.y → (0 < A ↔ Q < 0) := fun h1 h2 h3 => by
    have hA : A ≠ 0 := fun h => by have := n1 h; omega
    have hQ : Q ≠ 0 := fun h => by have := n4 h; omega
    have c1 := core_LM i1 i2 h1 h2 h3 n5
    have c2 := core_LM i1' i2' h1 h2 h3 n5'
    constructor
    · intro hh
      rcases Int.lt_or_le (Q) 0 with h | h
      · exact h
      · exact (c1 hh (by omega)).elim
    · intro hh
      rcases Int.lt_or_le 0 (A) with h | h
      · exact h
      · exact (c2 (by omega) (by omega)).elim
  have kMU : a.y < p.y → p.y ≤ b.y → b.y < q.y → (0 < B ↔ P < 0) := fun h1 h2 h3 => by
    have hB : B ≠ 0 := fun h => by have := n2 h; omega
    have hP : P ≠ 0 := fun h => by have := n3 h; omega
    have c1 := core_MU i1 i2 h1 h2 h3 n5
    have c2 := core_MU i1' i2' h1 h2 h3 n5'
    constructor
    · intro hh
      rcases Int.lt_or_le (P) 0 with h | h
      · exact h
      · exact (c1 hh (by omega)).elim
    · intro hh
      rcases Int.lt_or_le 0 (B) with h | h
      · exact h
      · exact (c2 (by omega) (by omega)).elim
  have kLU : p.y ≤ a.y → b.y < q.y → (0 < A ↔ 0 < B) := fun h1 h3 => by
    have hA : A ≠ 0 := fun h => by have := n1 h; omega
    have hB : B ≠ 0 := fun h => by have := n2 h; omega
    constructor
    · intro hh
      rcases Int.lt_or_le 0 (B) with h | h
      · exact h
      · exact (core_LU i0 i1 i2 h1 hab h3 n5 (fun g1 g2 g3 => by have := dLU g1 g2 g3 h3; omega) hh (by omega)).elim
    · intro hh
      rcases Int.lt_or_le 0 (A) with h | h
      · exact h
      · exact (core_LU i0' i1' i2' h1 hab h3 n5' (fun g1 g2 g3 => by have := dLU (by omega) g2 g3 h3; omega) (by omega) (by omega)).elim
  have kMM : a.y < p.y → q.y ≤ b.y → (P < 0 ↔ Q < 0) := fun h1 h3 => by
    have hP : P ≠ 0 := fun h => by have := n3 h; omega
    have hQ : Q ≠ 0 := fun h => by have := n4 h; omega
    constructor
    · intro hh
      rcases Int.lt_or_le (Q) 0 with h | h
      · exact h
      · exact (core_MM i0 i1 i2 h1 hpq h3 n5 (fun g1 g2 g3 => by have := dMM g1 g2 g3 (by omega); omega) hh (by omega)).elim
    · intro hh
      rcases Int.lt_or_le (P) 0 with h | h
      · exact h
      · exact (core_MM i0' i1' i2' h1 hpq h3 n5' (fun g1 g2 g3 => by have := dMM (by omega) g2 g3 (by omega); omega) (by omega) (by omega)).elim
  have dec : ∀ {x y : Prop} [Decidable x] [Decidable y], (x ↔ y) → decide x = decide y := fun h => by simp [h]
  have hL : p.y ≤ a.y ∨ (a.y < p.y ∧ p.y ≤ b.y) ∨ b.y < p.y := by omega
  have hQ : q.y ≤ a.y ∨ (a.y < q.y ∧ q.y ≤ b.y) ∨ b.y < q.y := by omega
  have T : ∀ {x : Prop} [Decidable x], x → decide x = true := fun h => decide_eq_true h
  have F : ∀ {x : Prop} [Decidable x], ¬ x → decide x = false := fun h => decide_eq_false h
  rcases hL with hL | ⟨hL, hL'⟩ | hL <;> rcases hQ with hQ | ⟨hQ, hQ'⟩ | hQ
  · rw [F (show ¬ a.y < p.y by omega), F (show ¬ a.y < q.y by omega), F (show ¬ b.y < p.y by omega), F (show ¬ b.y < q.y by omega)]; rfl
  · rw [F (show ¬ a.y < p.y by omega), T (show a.y < q.y by omega), F (show ¬ b.y < p.y by omega), F (show ¬ b.y < q.y by omega), T hQ', T (show p.y < q.y by omega), dec (kLM hL hQ hQ')]
    cases decide (Q < 0) <;> simp
  · rw [F (show ¬ a.y < p.y by omega), T (show a.y < q.y by omega), F (show ¬ b.y < p.y by omega), T (show b.y < q.y by omega), F (show ¬ q.y ≤ b.y by omega), T (show p.y < q.y by omega), dec (kLU hL hQ)]
    cases decide (0 < B) <;> simp
  · omega
  · rw [T (show a.y < p.y by omega), T (show a.y < q.y by omega), F (show ¬ b.y < p.y by omega), F (show ¬ b.y < q.y by omega), T hL', T hQ', dec (kMM hL hQ')]
    simp
  · rw [T (show a.y < p.y by omega), T (show a.y < q.y by omega), F (show ¬ b.y < p.y by omega), T (show b.y < q.y by omega), T hL', F (show ¬ q.y ≤ b.y by omega), T (show p.y < q.y by omega), dec (kMU hL hL' hQ)]
    cases decide (P < 0) <;> simp
  · omega
  · omega
  · rw [T (show a.y < p.y by omega), T (show a.y < q.y by omega), T (show b.y < p.y by omega), T (show b.y < q.y by omega), F (show ¬ p.y ≤ b.y by omega), F (show ¬ q.y ≤ b.y by omega)]
    simp
theorem meetR_swap (p q a b : Pt) : meetR q p a b = meetR p q a b := by
  have h1 : crs q p a = - crs p q a := by unfold crs; grind
  have h2 : crs q p b = - crs p q b := by unfold crs; grind
  unfold meetR
  rw [has_swap q p a, has_swap q p b, h1, h2]
  have e : decide (sgn (-crs p q a) * sgn (-crs p q b) < 0) = decide (sgn (crs p q a) * sgn (crs p q b) < 0) := by rw [decide_eq_decide, sgn_mul, sgn_mul]; omega
  rw [e, Int.mul_comm (sgn (crs a b q))]
  generalize hasB p q a = u; generalize hasB p q b = v; generalize hasB a b p = s; generalize hasB a b q = t
  cases u <;> cases v <;> cases s <;> cases t <;> rfl
theorem meetR_swap2 (p q a b : Pt) : meetR p q b a = meetR p q a b := by
  rw [← meet_eq, ← meet_eq, meetP_symm, meetP_symm p q a b, meet_eq, meet_eq, meetR_swap]
theorem meetR_has {p q a b : Pt} (h : meetR p q a b = false) : hasB p q a = false ∧ hasB p q b = false := by
  unfold meetR at h
  simp only [Bool.or_eq_false_iff] at h
  exact ⟨h.1.1.1.1, h.1.1.1.2⟩
theorem par2 {a b : Pt} (hab : a.y ≤ b.y) {e : Edge'} (hm : meetR e.a e.b a b = false) : xor (flipB e a) (flipB e b) = xor (inR a b e.a) (inR a b e.b) := by
  obtain ⟨p, q⟩ := e
  simp only at hm ⊢
  rcases Int.le_total p.y q.y with h | h
  · exact par1 hab h hm
  · have h1 := meetR_has hm
    rw [← flip_swap h1.1, ← flip_swap h1.2, par1 hab h (by rw [meetR_swap]; exact hm), Bool.xor_comm]
/-! ### sums over the edges -/
def xorL (f : Edge' → Bool) : List Edge' → Bool
  | [] => false
  | e :: l => xor (f e) (xorL f l)
theorem xorL_append (f : Edge' → Bool) : ∀ l m, xorL f (l ++ m) = xor (xorL f l) (xorL f m)
  | [], m => by simp [xorL]
  | e :: l, m => by simp only [List.cons_append, xorL, xorL_append f l m, Bool.xor_assoc]
theorem xorL_xor (f g : Edge' → Bool) : ∀ l, xor (xorL f l) (xorL g l) = xorL (fun e => xor (f e) (g e)) l
  | [] => rfl
  | e :: l => by
    simp only [xorL]
    rw [← xorL_xor f g l]
    generalize f e = p; generalize g e = q; generalize xorL f l = r; generalize xorL g l = s
    cases p <;> cases q <;> cases r <;> cases s <;> rfl
theorem xorL_congr {f g : Edge' → Bool} : ∀ {l}, (∀ e ∈ l, f e = g e) → xorL f l = xorL g l
  | [], _ => rfl
  | e :: l, h => by rw [xorL, xorL, h e List.mem_cons_self, xorL_congr fun x hx => h x (List.mem_cons_of_mem _ hx)]
theorem whereV_xor {c : Pt} : ∀ {E : List Edge'} {o : Int}, (∀ e ∈ E, hasB e.a e.b c = false) → whereV c o E = if xorL (fun e => flipB e c) E = true then -o else o
  | [], o, _ => rfl
  | e :: E, o, h => by
    rw [whereV, if_neg (by rw [h e List.mem_cons_self]; simp), whereV_xor fun x hx => h x (List.mem_cons_of_mem _ hx), xorL]
    cases flipB e c <;> cases xorL (fun e => flipB e c) E <;> simp
theorem whereV_has {c : Pt} : ∀ {E : List Edge'} {o : Int}, (∃ e ∈ E, hasB e.a e.b c = true) → whereV c o E = 0
  | [], _, ⟨e, h, _⟩ => by cases h
  | x :: E, o, ⟨e, h, h2⟩ => by
    rw [whereV]
    by_cases hx : hasB x.a x.b c = true
    · rw [if_pos hx]
    · rw [if_neg hx]
      rcases List.mem_cons.1 h with rfl | h
      · exact absurd h2 hx
      · exact whereV_has ⟨e, h, h2⟩
theorem closed_sum (f : Pt → Bool) (l : List Pt) : xorL (fun e => xor (f e.a) (f e.b)) (edgesL l) = false := by
  unfold edgesL
  rcases Nat.eq_zero_or_pos l.length with h0 | h0
  · rw [h0]; rfl
  · have path : ∀ m, m < l.length → xorL (fun e => xor (f e.a) (f e.b)) ((List.range m).map (edgeAt l)) = xor (f (l.getD 0 default)) (f (l.getD m default)) := fun m => by
      induction m with
      | zero => intro _; simp [xorL]
      | succ m ih =>
        intro hm
        rw [List.range_succ, List.map_append, xorL_append, ih (by omega)]
        simp only [List.map_cons, List.map_nil, xorL, edgeAt]
        rw [Nat.mod_eq_of_lt hm]
        generalize f (l.getD 0 default) = p; generalize f (l.getD m default) = q; generalize f (l.getD (m + 1) default) = r
        cases p <;> cases q <;> cases r <;> rfl
    obtain ⟨n, hn⟩ : ∃ n, l.length = n + 1 := ⟨l.length - 1, by omega⟩
    have hp := path n (by omega)
    rw [hn, List.range_succ, List.map_append, xorL_append, hp]
    simp only [List.map_cons, List.map_nil, xorL, edgeAt]
    rw [hn, Nat.mod_self]
    generalize f (l.getD 0 default) = p; generalize f (l.getD n default) = q
    cases p <;> cases q <;> rfl
theorem same_where1 {l : List Pt} {a b : Pt} (hab : a.y ≤ b.y) (hm : ∀ e ∈ edgesL l, meetR e.a e.b a b = false) : whereV a (-1) (edgesL l) = whereV b (-1) (edgesL l) := by
  rw [whereV_xor fun e he => (meetR_has (hm e he)).1, whereV_xor fun e he => (meetR_has (hm e he)).2]
  have h1 : xor (xorL (fun e => flipB e a) (edgesL l)) (xorL (fun e => flipB e b) (edgesL l)) = false := by
    rw [xorL_xor, xorL_congr (g := fun e => xor (inR a b e.a) (inR a b e.b)) fun e he => par2 hab (hm e he)]
    exact closed_sum _ l
  have h2 : xorL (fun e => flipB e a) (edgesL l) = xorL (fun e => flipB e b) (edgesL l) := by simpa using h1
  rw [h2]
theorem same_where {l : List Pt} {a b : Pt} (hm : ∀ e ∈ edgesL l, meetR e.a e.b a b = false) : whereV a (-1) (edgesL l) = whereV b (-1) (edgesL l) := by
  rcases Int.le_total a.y b.y with h | h
  · exact same_where1 h hm
  · exact (same_where1 h fun e he => by rw [meetR_swap2]; exact hm e he).symm
end Go.Proofs.YtjgdklhbegplfaaGreat

/-
  Plain: every point of an edge is as far from the center as the comparison says; so a segment within the disc meets no edge.
-/
set_option linter.all false
namespace Go.Proofs.YtjgdklhbegplfaaGreat
open Go Go.W Go.RowKit

/-- square of the length of m (p - a) + n (q - a) -/
def comb2 (a p q : Pt) (m n : Int) : Int := (m * (p.x - a.x) + n * (q.x - a.x)) * (m * (p.x - a.x) + n * (q.x - a.x)) + (m * (p.y - a.y) + n * (q.y - a.y)) * (m * (p.y - a.y) + n * (q.y - a.y))
theorem le_of_mul {w x y : Int} (hw : 0 < w) (h : w * x ≤ w * y) : x ≤ y := Int.le_of_mul_le_mul_left h hw
theorem mul_nn {a b : Int} (ha : 0 ≤ a) (hb : 0 ≤ b) : 0 ≤ a * b := Int.mul_nonneg ha hb
/-- d: what the comparison exceeds at least -/
theorem far {a p q : Pt} {r d m n : Int} (hd : 0 ≤ d) (hc : d ≤ cmpV p q a r) (hm : 0 ≤ m) (hn : 0 ≤ n) (hk : 0 < m + n) : ∃ t, 0 ≤ t ∧ (0 < d → 0 < t) ∧ (r * r) * ((m + n) * (m + n)) + t ≤ comb2 a p q m n := by
  have hk2 := Int.mul_pos hk hk
  unfold cmpV at hc
  split at hc
  · rename_i h1
    -- along <= 0
    have e : comb2 a p q m n = (m + n) * (m + n) * dotp a p p + (2 * ((m + n) * n)) * (- dotp p q a) + (n * n) * dotp p q q := by unfold comb2 dotp; grind
    have t1 : (m + n) * (m + n) * (r * r + d) ≤ (m + n) * (m + n) * dotp a p p := Int.mul_le_mul_of_nonneg_left (by omega) (by omega)
    have t2 : 0 ≤ (2 * ((m + n) * n)) * (- dotp p q a) := mul_nn (by have := mul_nn (show 0 ≤ m + n by omega) hn; omega) (by omega)
    have t3 : 0 ≤ (n * n) * dotp p q q := mul_nn (sq_nn n) (by unfold dotp; have := sq_nn (q.x - p.x); have := sq_nn (q.y - p.y); omega)
    refine ⟨(m + n) * (m + n) * d, mul_nn (by omega) hd, fun h => Int.mul_pos hk2 h, ?_⟩
    rw [e]
    have e2 : (m + n) * (m + n) * (r * r + d) = (r * r) * ((m + n) * (m + n)) + (m + n) * (m + n) * d := by grind
    omega
  · split at hc
    · rename_i h1 h2
      have e : comb2 a p q m n = (m + n) * (m + n) * dotp a q q + (2 * ((m + n) * m)) * (dotp p q a - dotp p q q) + (m * m) * dotp p q q := by unfold comb2 dotp; grind
      have t1 : (m + n) * (m + n) * (r * r + d) ≤ (m + n) * (m + n) * dotp a q q := Int.mul_le_mul_of_nonneg_left (by omega) (by omega)
      have t2 : 0 ≤ (2 * ((m + n) * m)) * (dotp p q a - dotp p q q) := mul_nn (by have := mul_nn (show 0 ≤ m + n by omega) hm; omega) (by omega)
      have t3 : 0 ≤ (m * m) * dotp p q q := mul_nn (sq_nn m) (by unfold dotp; have := sq_nn (q.x - p.x); have := sq_nn (q.y - p.y); omega)
      refine ⟨(m + n) * (m + n) * d, mul_nn (by omega) hd, fun h => Int.mul_pos hk2 h, ?_⟩
      rw [e]
      have e2 : (m + n) * (m + n) * (r * r + d) = (r * r) * ((m + n) * (m + n)) + (m + n) * (m + n) * d := by grind
      omega
    · rename_i h1 h2
      have hw : 0 < dotp p q q := by omega
      have e : dotp p q q * comb2 a p q m n = (m + n) * (m + n) * (crs p q a * crs p q a) + ((m + n) * dotp p q a - n * dotp p q q) * ((m + n) * dotp p q a - n * dotp p q q) := by unfold comb2 dotp crs; grind
      have t1 : (m + n) * (m + n) * (r * r * dotp p q q + d) ≤ (m + n) * (m + n) * (crs p q a * crs p q a) := Int.mul_le_mul_of_nonneg_left (by omega) (by omega)
      have t2 := sq_nn ((m + n) * dotp p q a - n * dotp p q q)
      have e2 : (m + n) * (m + n) * (r * r * dotp p q q + d) = dotp p q q * ((r * r) * ((m + n) * (m + n))) + (m + n) * (m + n) * d := by grind
      have t4 : 0 ≤ (m + n) * (m + n) * d := mul_nn (by omega) hd
      have key : dotp p q q * ((r * r) * ((m + n) * (m + n))) + (m + n) * (m + n) * d ≤ dotp p q q * comb2 a p q m n := by omega
      by_cases hd0 : 0 < d
      · have t5 : 0 < (m + n) * (m + n) * d := Int.mul_pos hk2 hd0
        refine ⟨1, by omega, fun _ => by omega, ?_⟩
        have : (r * r) * ((m + n) * (m + n)) < comb2 a p q m n := by
          rcases Int.lt_or_le ((r * r) * ((m + n) * (m + n))) (comb2 a p q m n) with h | h
          · exact h
          · have := Int.mul_le_mul_of_nonneg_left h (Int.le_of_lt hw); omega
        omega
      · exact ⟨0, by omega, fun h => absurd h hd0, by have := le_of_mul hw (show dotp p q q * ((r * r) * ((m + n) * (m + n))) ≤ dotp p q q * comb2 a p q m n by omega); omega⟩
/-- the disc about a that reaches to b -/
theorem no_meet {a b p q : Pt} {r : Int} (hpq : p ≠ q) (hc : 0 ≤ cmpV p q a r) (hd : dotp a b b ≤ r * r) (hb : hasB p q b = false) : meetR p q a b = false := by
  have hw : 0 < dotp p q q := by have := ne_sq (a := q) (b := p) (fun h => hpq h.symm); unfold dotp; exact this
  have ends : r * r ≤ dotp a p p ∧ r * r ≤ dotp a q q := by
    obtain ⟨t, t0, _, h1⟩ := far (d := 0) (m := 1) (n := 0) (by omega) hc (by omega) (by omega) (by omega)
    obtain ⟨t', t0', _, h2⟩ := far (d := 0) (m := 0) (n := 1) (by omega) hc (by omega) (by omega) (by omega)
    unfold comb2 at h1 h2
    unfold dotp
    simp at h1 h2
    omega
  -- an end of the edge does not lie on the segment
  have noend : ∀ z : Pt, r * r ≤ dotp a z z → hasB p q z = true → hasB a b z = false := fun z hz hz2 => by
    cases hh : hasB a b z with
    | false => rfl
    | true =>
      exfalso
      obtain ⟨h0, h1⟩ := has_iff.1 hh
      have hne : z ≠ b := fun he => by rw [he, hb] at hz2; cases hz2
      have hzb := ne_sq hne
      have e : dotp a b b = dotp a z z + dotp z b b - 2 * dotp z a b := by unfold dotp; grind
      have e2 : dotp z b b = (z.x - b.x) * (z.x - b.x) + (z.y - b.y) * (z.y - b.y) := by unfold dotp; grind
      omega
  have hp1 : hasB p q p = true := has_iff.2 ⟨by unfold crs; grind, by unfold dotp; simp⟩
  have hq1 : hasB p q q = true := has_iff.2 ⟨by unfold crs; grind, by unfold dotp; simp⟩
  have hA : hasB p q a = false := by
    cases hh : hasB p q a with
    | false => rfl
    | true =>
      exfalso
      obtain ⟨h0, h1⟩ := has_iff.1 hh
      have hm0 : 0 ≤ dotp q a p := by
        have e : dotp q a p = dotp a q q - dotp a p q := by unfold dotp; grind
        have : 0 ≤ dotp a q q := by unfold dotp; have := sq_nn (q.x - a.x); have := sq_nn (q.y - a.y); omega
        omega
      have hn0 : 0 ≤ dotp p a q := by
        have e : dotp p a q = dotp a p p - dotp a p q := by unfold dotp; grind
        have : 0 ≤ dotp a p p := by unfold dotp; have := sq_nn (p.x - a.x); have := sq_nn (p.y - a.y); omega
        omega
      have hk : dotp q a p + dotp p a q = dotp p q q := by unfold dotp; grind
      obtain ⟨t, t0, _, h2⟩ := far (d := 0) (m := dotp q a p) (n := dotp p a q) (by omega) hc hm0 hn0 (by omega)
      have hz : comb2 a p q (dotp q a p) (dotp p a q) = 0 := by
        have hx : dotp q a p * (p.x - a.x) + dotp p a q * (q.x - a.x) = crs p q a * (q.y - p.y) := by unfold dotp crs; grind
        have hy : dotp q a p * (p.y - a.y) + dotp p a q * (q.y - a.y) = crs p q a * (p.x - q.x) := by unfold dotp crs; grind
        unfold comb2; rw [hx, hy, h0]; simp
      rw [hz, hk] at h2
      have hr : r * r = 0 := by
        have h3 := Int.mul_pos hw hw
        have h4 := sq_nn r
        rcases Int.lt_or_le 0 (r * r) with h | h
        · have := Int.mul_pos h h3; omega
        · omega
      -- then b = a
      have : b = a := by
        rw [hr] at hd
        have g1 := sq_nn (b.x - a.x)
        have g2 := sq_nn (b.y - a.y)
        unfold dotp at hd
        have x0 : b.x - a.x = 0 := by
          rcases Int.mul_eq_zero.1 (show (b.x - a.x) * (b.x - a.x) = 0 by omega) with h | h <;> exact h
        have y0 : b.y - a.y = 0 := by
          rcases Int.mul_eq_zero.1 (show (b.y - a.y) * (b.y - a.y) = 0 by omega) with h | h <;> exact h
        cases a; cases b; simp at x0 y0 ⊢; omega
      rw [this, hh] at hb; cases hb
  have hP := noend p ends.1 hp1
  have hQ := noend q ends.2 hq1
  unfold meetR
  rw [hA, hb, hP, hQ]
  simp only [Bool.or_self, Bool.false_or]
  rw [Bool.and_eq_false_iff, decide_eq_false_iff_not, decide_eq_false_iff_not, sgn_mul, sgn_mul]
  by_cases h1 : (crs p q a < 0 ∧ 0 < crs p q b) ∨ (0 < crs p q a ∧ crs p q b < 0)
  · right
    intro h2
    have i0 : crs p q a + crs a b p = crs p q b + crs a b q := by unfold crs; grind
    have hb0 : 0 ≤ dotp a b b := by unfold dotp; have := sq_nn (b.x - a.x); have := sq_nn (b.y - a.y); omega
    -- the crossing point, as seen from a
    have hx : -crs a b q * (p.x - a.x) + crs a b p * (q.x - a.x) = -(crs p q a) * (b.x - a.x) := by unfold crs; grind
    have hy : -crs a b q * (p.y - a.y) + crs a b p * (q.y - a.y) = -(crs p q a) * (b.y - a.y) := by unfold crs; grind
    have fin : ∀ m n : Int, 0 ≤ m → 0 ≤ n → 0 < m + n → comb2 a p q m n = crs p q a * crs p q a * dotp a b b → (crs p q a * crs p q a < (m + n) * (m + n)) → False := fun m n hm hn hk hcm hlt => by
      obtain ⟨t, t0, _, h3⟩ := far (d := 0) (by omega) hc hm hn hk
      rw [hcm] at h3
      have h4 : crs p q a * crs p q a * dotp a b b ≤ crs p q a * crs p q a * (r * r) := Int.mul_le_mul_of_nonneg_left hd (sq_nn _)
      have hr0 := sq_nn r
      rcases Int.lt_or_le 0 (r * r) with h | h
      · have h5 := Int.mul_lt_mul_of_pos_left hlt h
        have h6 : crs p q a * crs p q a * (r * r) = r * r * (crs p q a * crs p q a) := Int.mul_comm _ _
        omega
      · -- r = 0: b = a
        have hz : dotp a b b = 0 := by omega
        have g1 := sq_nn (b.x - a.x)
        have g2 := sq_nn (b.y - a.y)
        unfold dotp at hz
        have x0 : b.x - a.x = 0 := by
          rcases Int.mul_eq_zero.1 (show (b.x - a.x) * (b.x - a.x) = 0 by omega) with h | h <;> exact h
        have y0 : b.y - a.y = 0 := by
          rcases Int.mul_eq_zero.1 (show (b.y - a.y) * (b.y - a.y) = 0 by omega) with h | h <;> exact h
        have : b = a := by cases a; cases b; simp at x0 y0 ⊢; omega
        rw [this] at h1; omega
    have hsq : ∀ x y : Int, (0 < x ∧ y < 0) ∨ (x < 0 ∧ 0 < y) → x * x < (x - y) * (x - y) := fun x y h => by
      have g1 : x * y < 0 := by
        rcases h with ⟨h, h'⟩ | ⟨h, h'⟩
        · exact Int.mul_neg_of_pos_of_neg h h'
        · exact Int.mul_neg_of_neg_of_pos h h'
      have g2 := sq_nn y
      have g3 : y ≠ 0 := by omega
      have g4 := sq_pos g3
      have e : (x - y) * (x - y) = x * x - 2 * (x * y) + y * y := by grind
      omega
    have hab : crs p q a * crs p q a < (crs p q a - crs p q b) * (crs p q a - crs p q b) := hsq _ _ (by omega)
    rcases h2 with ⟨h2, h3⟩ | ⟨h2, h3⟩
    · refine fin (crs a b q) (-crs a b p) (by omega) (by omega) (by omega) ?_ ?_
      · unfold comb2
        have x1 : crs a b q * (p.x - a.x) + -crs a b p * (q.x - a.x) = crs p q a * (b.x - a.x) := by grind
        have y1 : crs a b q * (p.y - a.y) + -crs a b p * (q.y - a.y) = crs p q a * (b.y - a.y) := by grind
        rw [x1, y1]; unfold dotp; grind
      · rw [show crs a b q + -crs a b p = crs p q a - crs p q b by omega]; exact hab
    · refine fin (-crs a b q) (crs a b p) (by omega) (by omega) (by omega) ?_ ?_
      · unfold comb2
        rw [hx, hy]; unfold dotp; grind
      · have : (-crs a b q + crs a b p) * (-crs a b q + crs a b p) = (crs p q a - crs p q b) * (crs p q a - crs p q b) := by
          rw [show -crs a b q + crs a b p = -(crs p q a - crs p q b) by omega]; grind
        rw [this]; exact hab
  · left; exact h1
/-- no point of the disc lies on an edge that is farther away -/
theorem no_has {a b p q : Pt} {r : Int} (hpq : p ≠ q) (hc : 0 < cmpV p q a r) (hd : dotp a b b ≤ r * r) : hasB p q b = false := by
  cases hh : hasB p q b with
  | false => rfl
  | true =>
    exfalso
    obtain ⟨h0, h1⟩ := has_iff.1 hh
    have hw : 0 < dotp p q q := by have := ne_sq (a := q) (b := p) (fun h => hpq h.symm); unfold dotp; exact this
    have hm0 : 0 ≤ dotp q b p := by
      have e : dotp q b p = dotp b q q - dotp b p q := by unfold dotp; grind
      have : 0 ≤ dotp b q q := by unfold dotp; have := sq_nn (q.x - b.x); have := sq_nn (q.y - b.y); omega
      omega
    have hn0 : 0 ≤ dotp p b q := by
      have e : dotp p b q = dotp b p p - dotp b p q := by unfold dotp; grind
      have : 0 ≤ dotp b p p := by unfold dotp; have := sq_nn (p.x - b.x); have := sq_nn (p.y - b.y); omega
      omega
    have hk : dotp q b p + dotp p b q = dotp p q q := by unfold dotp; grind
    obtain ⟨t, t0, t1, h2⟩ := far (d := 1) (m := dotp q b p) (n := dotp p b q) (by omega) (show 1 ≤ cmpV p q a r by omega) hm0 hn0 (by omega)
    have t1 := t1 (by omega)
    have hz : comb2 a p q (dotp q b p) (dotp p b q) = dotp p q q * dotp p q q * dotp a b b := by
      have hx : dotp q b p * (p.x - a.x) + dotp p b q * (q.x - a.x) = dotp p q q * (b.x - a.x) + crs p q b * (q.y - p.y) := by unfold dotp crs; grind
      have hy : dotp q b p * (p.y - a.y) + dotp p b q * (q.y - a.y) = dotp p q q * (b.y - a.y) + crs p q b * (p.x - q.x) := by unfold dotp crs; grind
      unfold comb2; rw [hx, hy, h0]
      have e : dotp a b b = (b.x - a.x) * (b.x - a.x) + (b.y - a.y) * (b.y - a.y) := rfl
      rw [e]
      generalize dotp p q q = w
      grind
    rw [hz, hk] at h2
    have h4 : dotp p q q * dotp p q q * dotp a b b ≤ dotp p q q * dotp p q q * (r * r) := Int.mul_le_mul_of_nonneg_left hd (sq_nn _)
    have h5 : r * r * (dotp p q q * dotp p q q) = dotp p q q * dotp p q q * (r * r) := Int.mul_comm _ _
    omega
theorem edge_ne {l : List Pt} (h : simpleB (edgesL l) = true) : ∀ e ∈ edgesL l, e.a ≠ e.b := fun e he => by
  unfold simpleB at h
  obtain ⟨i, hi, rfl⟩ := List.mem_iff_getElem.1 he
  have := List.all_eq_true.1 h i (by simpa using hi)
  rw [Bool.and_eq_true, List.getD_eq_getElem?_getD, List.getElem?_eq_getElem hi] at this
  simpa using this.1
/-- THE LAW: a covered disc lies inside -/
theorem cover_point {l : List Pt} {a b : Pt} {r : Int} (hs : simpleB (edgesL l) = true) (hd : dotp a b b ≤ r * r) (h : coverV l a r = true) : 0 ≤ whereV b (-1) (edgesL l) := by
  rw [cover_ref, Bool.and_eq_true, Bool.not_eq_true', List.any_eq_false] at h
  by_cases hx : ∃ e ∈ edgesL l, hasB e.a e.b b = true
  · rw [whereV_has hx]; omega
  · have hb : ∀ e ∈ edgesL l, hasB e.a e.b b = false := fun e he => by
      cases hh : hasB e.a e.b b with
      | false => rfl
      | true => exact absurd ⟨e, he, hh⟩ hx
    rw [← same_where (a := a) fun e he => no_meet (edge_ne hs e he) (by have := h.2 e he; simp at this; omega) hd (hb e he)]
    simpa using h.1
/-- a point of the disc that is not outside: the disc touches -/
theorem touch_point {l : List Pt} {a b : Pt} {r : Int} (hs : simpleB (edgesL l) = true) (hd : dotp a b b ≤ r * r) (h : 0 ≤ whereV b (-1) (edgesL l)) : touchV l a r = true := by
  cases ht : touchV l a r with
  | true => rfl
  | false =>
    exfalso
    rw [touch_ref, Bool.or_eq_false_iff, List.any_eq_false] at ht
    have hc : ∀ e ∈ edgesL l, 0 < cmpV e.a e.b a r := fun e he => by have := ht.2 e he; simp at this; omega
    rw [← same_where (a := a) fun e he => no_meet (edge_ne hs e he) (by have := hc e he; omega) hd (no_has (edge_ne hs e he) (hc e he) hd)] at h
    have := ht.1
    simp at this; omega
end Go.Proofs.YtjgdklhbegplfaaGreat

/-
  Lists that are being written, element by element.
-/
set_option linter.all false
namespace Go.W
open Go.RowKit
theorem Ev.neqA {P : Program} {e : Env} {w : World} {ty t : TypeId} {x y : Operand} {t' : TypeId} {vs us : Array Value} {q : Bool} (hg : P.eqGuardType P.depth t = false) (hr : ∀ w, (Op.equal t (.agg vs) (.agg us)).run P w = .ok q w) (hx : ev e x = .agg vs) (hy : ev e y = .agg us) : Ev P e w ty (.binOp .neq t x y t') (.bool (!q)) :=
  ⟨fun w' _ o ho _ => by
    have hp : (program : Sem Program).run P w' = .ok P w' := rfl
    unfold execOp; rw [ho]; simp [hx, hy, eqGuard, binOp, hr, hp, hg]⟩
/-- the first j elements of l, the others of m -/
def mixL {α : Type} (l m : List α) (j : Nat) : List α := l.take j ++ m.drop j
theorem mixL_length {α : Type} {l m : List α} {j : Nat} (h : l.length = m.length) (hj : j ≤ l.length) : (mixL l m j).length = l.length := by simp [mixL]; omega
theorem mixL_zero {α : Type} (l m : List α) : mixL l m 0 = m := by simp [mixL]
theorem mixL_all {α : Type} {l m : List α} (h : l.length = m.length) : mixL l m l.length = l := by
  unfold mixL
  rw [List.take_length, List.drop_eq_nil_of_le (by omega), List.append_nil]
theorem mixL_get {α : Type} {l m : List α} {j : Nat} (h : l.length = m.length) (hj : j < l.length) : (mixL l m j)[j]? = m[j]? := by
  have e1 : (l.take j).length = j := by simp; omega
  unfold mixL
  rw [List.getElem?_append_right (by omega), e1]
  simp
theorem mixL_set {α : Type} {l m : List α} {j : Nat} (h : l.length = m.length) (hj : j < l.length) : (mixL l m j).set j (l[j]) = mixL l m (j + 1) := by
  have e1 : (l.take j).length = j := by simp; omega
  unfold mixL
  rw [List.set_append_right _ _ (by omega), e1, Nat.sub_self, List.drop_eq_getElem_cons (show j < m.length by omega), List.set_cons_zero, ← List.take_append_getElem hj, List.append_assoc]
  rfl
theorem OnesAt.atK {α : Type} {enc : α → Value} {w : World} {b o : Nat} {l : List α} (h : OnesAt enc w (some ⟨b, o, none⟩) l) {k : Nat} (hk : k < l.length) : w.cell? ⟨b, o + k, none⟩ = some (enc (l[k]'hk)) := by
  obtain ⟨b', o', h1, h2⟩ := h k hk
  cases h1; exact h2
theorem OnesAt.cells {α : Type} {enc : α → Value} {w : World} {b : Nat} : ∀ {o : Nat} {l : List α}, OnesAt enc w (some ⟨b, o, none⟩) l → cellsAt w b o (l.map enc)
  | _, [], _ => trivial
  | o, a :: l, h => ⟨h.atK (k := 0) (Nat.zero_lt_succ _), OnesAt.cells fun k hk => ⟨b, o + 1, rfl, by
      have := h.atK (k := k + 1) (by simpa using hk)
      rw [show o + 1 + k = o + (k + 1) by omega]; exact this⟩⟩
theorem Ev.convI {P : Program} {e : Env} {w : World} {ty s d : TypeId} {x : Operand} {k' : IntKind} {a : Int} (hs : ∀ w, (underlying s).run P w = .ok (.int k') w) (hd : ∀ w, (underlying d).run P w = .ok (.int .i64) w) (hx : ev e x = .int k' a) (h : fits a) : Ev P e w ty (.convert s d x) (.int .i64 a) := by
  have := Ev.conv (P := P) (w := w) (ty := ty) hs hd hx
  rwa [wrap_fits h] at this
/-- a store into a list that begins a block -/
theorem putL_pre {α : Type} {enc : α → Value} (l : List α) (post : List Value) (k : Nat) (x : α) (hk : k < l.length) : putL (l.map enc ++ post) k [enc x] = (l.set k x).map enc ++ post := by
  simp only [putL]
  rw [List.set_append_left _ _ (by simpa using hk), List.map_set]
theorem preCell {α : Type} {enc : α → Value} {w0 w : World} {S : List Nat} {L : List Blk} (H : SH w0 S w L) (i : Nat) {g : Nat} {T : TypeId} {l : List α} {post : List Value} (hi : L[i]? = some ⟨g, T, l.map enc ++ post⟩) {k : Nat} (hk : k < l.length) : w.cell? ⟨g, k, none⟩ = some (enc l[k]) :=
  H.ldL i hi k (by
    show (l.map enc ++ post)[k]? = _
    rw [List.getElem?_append_left (by simpa using hk), List.getElem?_map, List.getElem?_eq_getElem hk]; rfl)
end Go.W

/-
  Guards within guards.
-/
set_option linter.all false
namespace Go.W
open Go.RowKit
/-- the guard's slot says 'want' just where q -/
structure GB (v : Value) (want q : Bool) : Prop where
  out : v = .bool want ↔ q = true
theorem GB.b {v : Value} {b want : Bool} (h : v = .bool b) : GB v want (b == want) := ⟨by subst h; cases b <;> cases want <;> simp⟩
theorem GB.g {v : Value} {b1 w1 b2 want : Bool} (h : v = gv b1 w1 (.bool b2)) : GB v want ((b1 == w1) && (b2 == want)) := ⟨by
  subst h
  by_cases h1 : b1 = w1
  · subst h1; cases b2 <;> cases want <;> simp [gv]
  · simp [gv, h1, undef]⟩
section
variable {P : Program} {N : Nat} {m : Md} {ops : Array Oper} {K : Env → World → Prop} {e : Env} {w : World} {rest : List Oper} {o : Oper}
theorem yielded_gb {a : Act} {j dj : Nat} {want q : Bool} (hj : ops[j]?.bind (·.dst) = some dj) (h : GB (envOf a dj) want q) : (yielded ops a.tmps j == some want) = q := by
  have h2 := h.out
  unfold yielded
  simp only [envOf, undef] at h2
  rw [hj]
  simp only [Option.bind_some]
  cases ht : a.tmps[dj]? with
  | none =>
    simp only [Array.getD_eq_getD_getElem?, ht, Option.getD_none] at h2
    cases q with
    | true => simp at h2
    | false => rfl
  | some u =>
    simp only [Array.getD_eq_getD_getElem?, ht, Option.getD_some] at h2
    cases u with
    | bool x =>
      cases q with
      | true =>
        have := h2.2 rfl
        cases this; simp
      | false =>
        have hne : x ≠ want := fun e => by subst e; have := h2.1 rfl; cases this
        simp [hne]
    | _ =>
      cases q with
      | true => have := h2.2 rfl; cases this
      | false => rfl
theorem OPS.gvalN {d j dj : Nat} {want q : Bool} {v : Value} (hg : o.guard = some (j, want)) (hj : ops[j]?.bind (·.dst) = some dj) (hb : GB (e dj) want q) (hd : o.dst = some d) (hN : Nat.blt d N = true)
    (hE : q = true → Ev P e w o.type o.op v) (h : OPS P N m ops K rest (upd e d (gv q true v)) w) : OPS P N m ops K (o :: rest) e w :=
  ⟨fun a h1 h2 h3 => by
    have hn := h.run (a.put (some d) (gv q true v)) (by rw [envOf_put _ h2 hN, h1]) (by rw [size_put]; exact h2) (by rw [defers_put]; exact h3)
    have hy := yielded_gb (a := a) (want := want) (q := q) hj (h1 ▸ hb)
    have hwt : Region.wanted o (yielded ops a.tmps) = q := by simp only [Region.wanted, hg]; exact hy
    cases q with
    | true =>
      have hr := fun w' hb => (hE rfl).run w' hb o rfl rfl
      rw [← h1, ← eval_eq] at hr
      have hgv : gv true true v = v := by simp [gv]
      rw [hgv] at hn
      cases m with
      | plain =>
        simp only at hn ⊢
        unfold wpList
        rw [if_pos hwt]
        refine .inl ?_
        unfold Oper.wp
        rw [hr w (Below.refl _ _)]
        simp only [Oper.upon, hd]
        exact hn
      | still =>
        simp only at hn ⊢
        unfold wpStill
        rw [if_pos hwt]
        unfold Oper.still
        rw [hr w (Below.refl _ _)]
        simp only [Oper.stillUpon, hd]
        exact ⟨trivial, hn⟩
      | quiet =>
        simp only at hn ⊢
        unfold wpQuiet
        rw [if_pos hwt]
        refine ⟨v, fun w' hb => ?_, by rw [hd]; exact hn⟩
        unfold Oper.quietAt
        rw [hr w' hb]
        exact ⟨rfl, rfl⟩
    | false =>
      have hgv : gv false true v = undef := by simp [gv]
      rw [hgv] at hn
      cases m with
      | plain => simp only at hn ⊢; unfold wpList; rw [hwt, hd]; exact hn
      | still => simp only at hn ⊢; unfold wpStill; rw [hwt, hd]; exact hn
      | quiet => simp only at hn ⊢; unfold wpQuiet; rw [hwt, hd]; exact hn⟩
/-- a guarded call whose result is not known beforehand -/
theorem OPS.gcallN {α : Type} [Inhabited α] (val : α → Value) (R : α → World → Prop) {d j dj : Nat} {want q : Bool} {f : FuncId} {args : List Value}
    (hC : q = true → Calls P f args.toArray w fun e' w' => ∃ x, e' = .returned (val x) ∧ R x w' ∧ Below w.heap.size w w') (hg : o.guard = some (j, want)) (hj : ops[j]?.bind (·.dst) = some dj) (hb : GB (e dj) want q) (hd : o.dst = some d) (hN : Nat.blt d N = true)
    (hE : q = true → EvC P e o.op f args)
    (h : ∀ x w', (q = true → R x w') → Below w.heap.size w w' → OPS P N .plain ops K rest (upd e d (gv q true (val x))) w') : OPS P N .plain ops K (o :: rest) e w :=
  ⟨fun a h1 h2 h3 => by
    have hy := yielded_gb (a := a) (want := want) (q := q) hj (h1 ▸ hb)
    have hwt : Region.wanted o (yielded ops a.tmps) = q := by simp only [Region.wanted, hg]; exact hy
    simp only
    unfold wpList
    cases q with
    | true =>
      rw [if_pos hwt]
      refine .inl ?_
      unfold Oper.wp
      have hr := (hE rfl).run w o rfl
      rw [← h1, ← eval_eq] at hr
      rw [hr]
      refine (hC rfl).mono fun e' w' ⟨x, he, hR, hb2⟩ => ?_
      subst he
      have hn := (h x w' (fun _ => hR) hb2).run (a.put (some d) (gv true true (val x))) (by rw [envOf_put _ h2 hN, h1]) (by rw [size_put]; exact h2) (by rw [defers_put]; exact h3)
      have hgv : gv true true (val x) = val x := by simp [gv]
      rw [hgv] at hn
      rw [hd]
      exact hn
    | false =>
      have hn := (h default w (fun hx => by cases hx) (Below.refl _ _)).run (a.put (some d) (gv false true (val default))) (by rw [envOf_put _ h2 hN, h1]) (by rw [size_put]; exact h2) (by rw [defers_put]; exact h3)
      have hgv : gv false true (val default) = undef := by simp [gv]
      rw [hgv] at hn
      rw [hwt, hd]; exact hn⟩
end
section
variable {P : Program} {e : Env} {w : World} {ty : TypeId} {x y c : Operand}
theorem Ev.pickAnd2 {q b u : Bool} (hg : q = true) (hc : ev e c = .bool b) (hx : ev e x = gv (q && (b == true)) true (.bool u)) (hy : ev e y = .bool false) : Ev P e w ty (.pick c x y) (.bool (b && u)) := by
  have := Ev.pick (P := P) (w := w) (ty := ty) (x := x) (y := y) hc
  cases b <;> simpa [hx, hy, gv, hg] using this
theorem Ev.pickOr2 {q b u : Bool} (hg : q = true) (hc : ev e c = .bool b) (hx : ev e x = .bool true) (hy : ev e y = gv (q && (b == false)) true (.bool u)) : Ev P e w ty (.pick c x y) (.bool (b || u)) := by
  have := Ev.pick (P := P) (w := w) (ty := ty) (x := x) (y := y) hc
  cases b <;> simpa [hx, hy, gv, hg] using this
end
section
variable {P : Program} {N : Nat} {Kn : Env → World → Prop} {Kx : Nat → Env → World → Prop} {Kr : Env → World → Prop} {e : Env} {w : World}
/-- what holds behind a piece of code, however it went -/
theorem WP.cut {c : Code} (M : List Nat) (I : Env → World → Prop) (h : WP P N c (fun e' w' => Agree M e' e ∧ I e' w') Kx Kr e w) (hk : ∀ u w', I u w' → Kn (W.mix M u e) w') : WP P N c Kn Kx Kr e w :=
  WP.mono h (fun e' w' hh => by rw [hh.1.eq]; exact hk e' w' hh.2) (fun _ _ _ h => h) (fun _ _ h => h)
end
theorem beqT {b want : Bool} (h : b = want) : (b == want) = true := by simp [h]
end Go.W

/-
  Pointers and functions compared with nil, slice expressions, clear.
-/
set_option linter.all false
namespace Go.W
open Go.RowKit
section
variable {P : Program} {e : Env} {w : World} {ty t : TypeId} {x y : Operand}
theorem Ev.eqlPn {t' : TypeId} {el : TypeId} {a : Option Addr} (hU : ∀ w, (underlying t).run P w = .ok (.pointer el) w) (hx : ev e x = .pointer a) (hy : ev e y = .pointer none) : Ev P e w ty (.binOp .eql t x y t') (.bool a.isNone) :=
  ⟨fun w' _ o ho _ => by
    have hq : ∀ w, (Op.equal t (.pointer a) (.pointer none)).run P w = .ok a.isNone w := by
      intro w
      unfold Op.equal
      rw [show Op.maxDepth = 9999 + 1 from rfl, Op.equalIn]
      cases a <;> simp [hU]
    unfold execOp; rw [ho]; simp [hx, hy, eqGuard, binOp, hq]⟩
theorem Ev.eqlFn {t' : TypeId} {ps rs : Array TypeId} {v : Bool} {f : Fn} {fs cs : Array Value} (hU : ∀ w, (underlying t).run P w = .ok (.func ps rs v) w) (hx : ev e x = .func f fs cs) (hy : ev e y = .nilFunc) : Ev P e w ty (.binOp .eql t x y t') (.bool false) :=
  ⟨fun w' _ o ho _ => by
    have hq : ∀ w, (Op.equal t (.func f fs cs) .nilFunc).run P w = .ok false w := by
      intro w
      unfold Op.equal
      rw [show Op.maxDepth = 9999 + 1 from rfl, Op.equalIn]
      simp [hU]
    unfold execOp; rw [ho]; simp [hx, hy, eqGuard, binOp, hq]⟩
/-- x[j:] of a slice that holds more than j -/
theorem Ev.sliceFrom2 {i : Operand} {el n cap j sz b o : Nat} {k : IntKind} {ii : Int} (hU : ∀ w, (underlying t).run P w = .ok (.slice el) w) (hs : ∀ w, (Go.sizeOf el).run P w = .ok sz w)
    (hx : ev e x = .slice (some ⟨b, o, none⟩) n cap) (hi : ev e i = .int k ii) (hj : ii = (j : Int)) (hle : j ≤ n) (hlt : j < cap) : Ev P e w ty (.slice t x (some i) none none) (.slice (some ⟨b, o + j * sz, none⟩) (n - j) (cap - j)) := by
  have h := Ev.sliceFrom (P := P) (w := w) (ty := ty) hU hs hx hi hj hle
  rw [if_neg (by omega), Option.map_some, addr_add] at h
  exact h
end
/-- some of the first blocks, in another order; those behind stay -/
theorem SH.reidxT {w0 w : World} {S : List Nat} {L L' Lo : List Blk} (H : SH w0 S w (L ++ Lo)) (idx : List Nat) (hn : idx.Nodup) (hi : idx.map (fun i => L[i]?) = L'.map some) : SH w0 S w (L' ++ Lo) := by
  have h1 := (H.drop (List.sublist_append_left L Lo)).reidx idx hn hi
  have h2 := H.drop (List.sublist_append_right L Lo)
  have hmem : ∀ b ∈ L', b ∈ L := by
    intro b hb
    have h3 : some b ∈ idx.map (fun i => L[i]?) := by rw [hi]; exact List.mem_map_of_mem hb
    obtain ⟨i, _, h4⟩ := List.mem_map.1 h3
    exact List.mem_of_getElem? h4
  refine ⟨H.os, H.tape, H.output, H.size, H.low, fun b hb => ?_, fun b hb => ?_, ?_⟩
  · rcases List.mem_append.1 hb with hb | hb
    · exact h1.own b hb
    · exact h2.own b hb
  · rcases List.mem_append.1 hb with hb | hb
    · exact h1.may b hb
    · exact h2.may b hb
  · have hd := H.nodup
    rw [List.map_append, List.nodup_append] at hd ⊢
    refine ⟨h1.nodup, h2.nodup, fun a ha b hb => ?_⟩
    obtain ⟨c, hc, rfl⟩ := List.mem_map.1 ha
    exact hd.2.2 c.g (List.mem_map_of_mem (hmem c hc)) b hb
theorem upd_comm {e : Env} {a b : Nat} {x y : Value} (h : Nat.beq a b = false) : upd (upd e a x) b y = upd (upd e b y) a x := by
  have hne : a ≠ b := fun he => by subst he; rw [Nat.beq_refl] at h; cases h
  funext j
  simp only [upd]
  cases h1 : Nat.beq j b <;> cases h2 : Nat.beq j a <;> try rfl
  exact absurd ((Nat.eq_of_beq_eq_true h2).symm.trans (Nat.eq_of_beq_eq_true h1)) hne
theorem OPH.named {P : Program} {N : Nat} {ops : Array Oper} {K : Env → World → Prop} {w0 w : World} {S : List Nat} {L : List Blk} {f f' : Nat} {ls ls' : Array Bool} {e : Env} (hf : f = f') (hl : ls = ls')
    (h : ∀ Q : Nat → Array Bool → Env → World → Prop, Q = OPH P N ops K w0 S L → Q f' ls' e w) : OPH P N ops K w0 S L f ls e w := by subst hf hl; exact h _ rfl
theorem qcast {Q : Nat → Array Bool → Env → World → Prop} {f : Nat} {ls ls' : Array Bool} {e : Env} {w : World} (hl : ls = ls') (h : Q f ls' e w) : Q f ls e w := hl ▸ h
theorem qd {Q : Nat → Array Bool → Env → World → Prop} {f : Nat} {ls ls' : Array Bool} {e : Env} {w : World} (h : Q f ls' e w) (hl : ls = ls' := by kernel_rfl) : Q f ls e w := hl ▸ h
theorem uc {e : Env} (a b : Nat) {x y : Value} (h : Nat.beq a b = false := by rfl) : upd (upd e a x) b y = upd (upd e b y) a x := upd_comm h
def bb (n m : Nat) : Array Bool := ((List.range n).map fun i => m.testBit i).toArray
abbrev DQ (Q : Nat → Array Bool → Env → World → Prop) (k : Nat) (ls : Array Bool) (w0 : World) (S : List Nat) (L : List Blk) (e : Env) : Prop := ∀ w, SH w0 S w L → Q k ls e w
abbrev vS (g n : Nat) : Value := .slice (some ⟨g, 0, none⟩) n n
abbrev vP (g : Nat) : Value := .pointer (some ⟨g, 0, none⟩)
theorem SH.rx {w0 w : World} {S : List Nat} {L L' : List Blk} (H : SH w0 S w L) (ix : List Nat) (h1 : ix.Nodup := by decide) (h2 : ix.map (fun i => L[i]?) = L'.map some := by rfl) : SH w0 S w L' := H.reidx ix h1 h2
section
variable {P : Program} {N : Nat} {ops : Array Oper} {K : Env → World → Prop} {e : Env} {w w0 : World} {S : List Nat} {L : List Blk} {rest : List Oper} {o : Oper} {t : TypeId} {x y : Operand}
/-- an operation whose value is not kept -/
theorem OPS.actv {v : Value} {w' : World} (hg : o.guard = none) (hd : o.dst = none) (hr : (execOp (ev e) o).run P w = .ok (.value v) w')
    (h : OPS P N .plain ops K rest e w') : OPS P N .plain ops K (o :: rest) e w :=
  ⟨fun a h1 h2 h3 => by
    have hn := h.run a h1 h2 h3
    rw [← h1, ← eval_eq] at hr
    simp only at hn ⊢
    unfold wpList
    rw [if_pos (wanted_none hg _)]
    refine .inl ?_
    unfold Oper.wp
    rw [hr]
    simp only [Oper.upon, hd, Act.put]
    exact hn⟩
/-- clear(s) -/
theorem OPS.clear {el n c : Nat} {z : Value} {b : Blk} {zs : List Value} (i k : Nat) (hg : o.guard = none) (hd : o.dst = none)
    (hop : o.op = .call { callee := .builtin .clear, args := #[x], argTypes := #[t] }) (hU : ∀ w, (underlying t).run P w = .ok (.slice el) w) (hz : ∀ w, (zeroValue el).run P w = .ok z w) (hzs : z.cells = zs.toArray) (hz0 : 0 < zs.length)
    (h1 : (zs.all (·.oneCell')) = true) (hx : ev e x = .slice (some ⟨b.g, k, none⟩) n c) (hn : 0 < n) (H : SH w0 S w L) (hi : L[i]? = some b) (hk : k + n * zs.length ≤ b.cs.length)
    (h : ∀ w', SH w0 S w' (L.set i ⟨b.g, b.T, putL b.cs k (mkL n zs)⟩) → OPS P N .plain ops K rest e w') : OPS P N .plain ops K (o :: rest) e w := by
  have hm1 : ((mkL n zs).all (·.oneCell')) = true := by
    rw [List.all_eq_true] at h1 ⊢
    intro v hv
    rw [mkL, List.mem_flatten] at hv
    obtain ⟨l, hl, hv⟩ := hv
    rw [List.eq_of_mem_replicate hl] at hv
    exact h1 v hv
  obtain ⟨w', hr, H'⟩ := store_run (P := P) (mkL n zs) w L b k 0 H hi (by rw [mkL_length]; omega) hm1
  refine OPS.actv (v := .tuple #[]) (w' := w') hg hd ?_ (h w' H')
  have hzc : (Builtin.zeroCells z.cells n).toList = mkL n zs := by
    rw [hzs]
    have := mkCells n hz0
    simp only [Builtin.zeroCells] at *
    exact congrArg Array.toList this
  obtain ⟨m, rfl⟩ : ∃ m, n = m + 1 := ⟨n - 1, by omega⟩
  unfold execOp; rw [hop]
  simp [resolve, invoke, builtin, hx, Builtin.clear_, hU, hz, hzc, hr]
end
end Go.W

/-
  A slice that is nil, or fills a block of the call's own.
-/
set_option linter.all false
namespace Go.W
open Go.RowKit
def OwnL {α : Type} (T : TypeId) (enc : α → Value) (A : Option Addr) (l : List α) (L : List Blk) : Prop := (A = none ∧ l = [] ∧ L = []) ∨ ∃ g, A = some ⟨g, 0, none⟩ ∧ L = [⟨g, T, l.map enc⟩]
theorem OwnL.nil {α : Type} {T : TypeId} {enc : α → Value} : OwnL T enc none ([] : List α) [] := .inl ⟨rfl, rfl, rfl⟩
theorem OwnL.mk {α : Type} {T : TypeId} {enc : α → Value} (g : Nat) (l : List α) : OwnL T enc (some ⟨g, 0, none⟩) l [⟨g, T, l.map enc⟩] := .inr ⟨g, rfl, rfl⟩
theorem OwnL.rd {α : Type} {T : TypeId} {enc : α → Value} {A : Option Addr} {l : List α} {L L' : List Blk} {w0 w : World} {S : List Nat} (h : OwnL T enc A l L) (H : SH w0 S w L') (hs : ∀ b ∈ L, b ∈ L') : OnesAt enc w A l := by
  rcases h with ⟨rfl, rfl, rfl⟩ | ⟨g, rfl, rfl⟩
  · exact OnesAt.nil
  · intro k hk
    refine ⟨g, 0, rfl, ?_⟩
    obtain ⟨i, hi⟩ := List.getElem?_of_mem (hs ⟨g, T, l.map enc⟩ (by simp))
    rw [Nat.zero_add]
    refine H.ldL i hi k ?_
    show (l.map enc)[k]? = _
    rw [List.getElem?_map, List.getElem?_eq_getElem hk]; rfl
section
variable {P : Program} {N : Nat} {ops : Array Oper} {K : Env → World → Prop} {e : Env} {w w0 : World} {S : List Nat} {L : List Blk} {rest : List Oper} {o : Oper} {t : TypeId} {x y : Operand}
theorem append0_run {el sz n cap cx : Nat} {A Ax : Option Addr} {ty : TypeId} (hU : ∀ w, (underlying t).run P w = .ok (.slice el) w) (hs : ∀ w, (Go.sizeOf el).run P w = .ok sz w) (hle : n ≤ cap) (w : World) :
    (Builtin.append_ #[t, t] ty #[.slice A n cap, .slice Ax 0 cx]).run P w = .ok (.slice A n cap) w := by
  unfold Builtin.append_
  have hz : (loadCells · 0 : Addr → Sem (Array Value)) = fun _ => pure #[] := by funext a; rfl
  cases A <;> cases Ax <;> simp [hU, hs, Builtin.lenOf, Builtin.firstCells, hle, loadCells, loadCellsFrom, storeCells]
/-- as OPS.append; what is appended may also be nothing -/
theorem OPS.appendE {d el sz bt n m cap cx : Nat} {ty2 : Array TypeId} {A Ax : Option Addr} {zs xs news : List Value} {Lo R : List Blk} (hg : o.guard = none) (hd : o.dst = some d) (hN : Nat.blt d N = true)
    (hop : o.op = .call { callee := .builtin .append, args := #[x, y], argTypes := ty2 }) (hty : ty2 = #[t, t]) (hf : SlFact P t el sz bt zs)
    (hx : ev e x = .slice A n cap) (hy : ev e y = .slice Ax m cx) (hO : OwnS A cap n xs el sz Lo) (hl : news.length = m * sz) (hs : m = 0 ∨ ∃ b o, Ax = some ⟨b, o, none⟩ ∧ cellsAt w b o news) (h1 : (news.all (·.oneCell')) = true)
    (hbd : (n + m) * bt ≤ 140737488355328) (hbd2 : n + m ≤ maxLen) (H : SH w0 S w L) (hp : L.Perm (R ++ Lo))
    (h : ∀ A' cap' Lo' w', OwnS A' cap' (n + m) (xs ++ news) el sz Lo' → SH w0 S w' (R ++ Lo') → OPS P N .plain ops K rest (upd e d (.slice A' (n + m) cap')) w') : OPS P N .plain ops K (o :: rest) e w := by
  rcases hs with rfl | hs
  · have hn0 : news = [] := List.length_eq_zero_iff.1 (by rw [hl]; simp)
    subst hn0
    have hle : n ≤ cap := by rcases hO.form with ⟨_, q, _, _⟩ | ⟨_, _, _, _, q, _, _⟩ <;> omega
    have hsz : ∀ w, (Go.sizeOf el).run P w = .ok sz w := fun w => by
      obtain ⟨i, z, i1, i2, i3, i4, i5⟩ := hf.info
      have ht : (typeInfo el).run P w = .ok i w := by unfold typeInfo program; simp only [Sem.run_bind, Sem.run, Result.andThen_ok, i1, Sem.run_pure]
      unfold Go.sizeOf; simp only [Sem.run_bind, ht, Result.andThen_ok, i3, Sem.run_pure]
    refine OPS.act (v := .slice A n cap) (w' := w) hg hd hN ?_ (h A cap Lo w (by simpa using hO) (H.perm hp))
    unfold execOp; rw [hop, hty]
    simp only [resolve, Sem.run_bind, Sem.run_pure, Result.andThen_ok, invoke, builtin]
    have := append0_run (P := P) (t := t) (ty := o.type) (A := A) (Ax := Ax) (cx := cx) hf.undRun hsz hle w
    simp [hx, hy, this]
  · exact OPS.append hg hd hN hop hty hf hx hy hO hl hs h1 hbd hbd2 H hp h
end
end Go.W

/-
  Lists of rows as sources of append; permutations of blocks by counting.
-/
set_option linter.all false
namespace Go.W
open Go.RowKit
open Classical in
theorem sumCount {α : Type} (l : List α) (x : α) : (l.map fun a => if a = x then 1 else 0).sum = l.count x := by
  induction l with
  | nil => rfl
  | cons a l ih =>
    rw [List.map_cons, List.sum_cons, ih, List.count_cons]
    by_cases h : a = x <;> simp [h] <;> omega
open Classical in
theorem permBy {α : Type} {l l' : List α} (h : ∀ f : α → Nat, (l.map f).sum = (l'.map f).sum) : l.Perm l' :=
  List.perm_iff_count.2 fun x => by rw [← sumCount, ← sumCount]; exact h _
theorem cellsApp {w : World} {b : Nat} : ∀ {vs us : List Value} {o : Nat}, cellsAt w b o vs → cellsAt w b (o + vs.length) us → cellsAt w b o (vs ++ us)
  | [], us, o, _, h => by simpa using h
  | v :: vs, us, o, h1, h2 => ⟨h1.1, cellsApp h1.2 (by rw [show o + 1 + vs.length = o + (v :: vs).length by simp; omega]; exact h2)⟩
theorem rowsCellsAt {α : Type} {sz : Nat} {enc : α → List Value} {w : World} (hsz : ∀ x, (enc x).length = sz) : ∀ (l : List α) {b : Nat} (o : Nat), RowsAt sz enc w (some ⟨b, o, none⟩) l → cellsAt w b o (l.flatMap enc)
  | [], _, _, _ => trivial
  | x :: l, b, o, h => by
    rw [List.flatMap_cons]
    have h0 := h 0 (by simp)
    obtain ⟨b0, o0, e, h1⟩ := h0
    cases e
    refine cellsApp (by simpa using h1) ?_
    rw [hsz]
    refine rowsCellsAt hsz l (o + sz) fun k hk => ?_
    obtain ⟨b1, o1, e1, h2⟩ := h (k + 1) (by simpa using hk)
    cases e1
    refine ⟨_, _, rfl, ?_⟩
    rw [show o + sz + k * sz = o + (k + 1) * sz by rw [Nat.succ_mul]; omega]
    simpa using h2
theorem rowsFrom {α : Type} {sz : Nat} {enc : α → List Value} {w : World} {A : Option Addr} {l : List α} (hsz : ∀ x, (enc x).length = sz) (h : RowsAt sz enc w A l) : l.length = 0 ∨ ∃ b o, A = some ⟨b, o, none⟩ ∧ cellsAt w b o (l.flatMap enc) := by
  rcases Nat.eq_zero_or_pos l.length with h0 | h0
  · exact .inl h0
  · obtain ⟨b, o, rfl, _⟩ := h 0 h0
    exact .inr ⟨b, o, rfl, rowsCellsAt hsz l o h⟩
theorem rowsOne {α : Type} {enc : α → List Value} (he : ∀ x, ((enc x).all (·.oneCell')) = true) (l : List α) : ((l.flatMap enc).all (·.oneCell')) = true := by
  rw [List.all_eq_true]
  intro v hv
  obtain ⟨x, _, hx⟩ := List.mem_flatMap.1 hv
  exact List.all_eq_true.1 (he x) v hx
theorem OwnS.mt {g el sz : Nat} : OwnS (some ⟨g, 0, none⟩) 0 0 [] el sz [⟨g, el, []⟩] := ⟨by simp, .inr ⟨g, [], rfl, rfl, Nat.le_refl _, by unfold maxLen; omega, by simp⟩⟩
/-- these blocks are among those -/
class Sb (L' L : List Blk) : Prop where
  out : L'.Sublist L
instance (L : List Blk) : Sb L L := ⟨List.Sublist.refl _⟩
instance (L M N : List Blk) [h : Sb L N] : Sb L (M ++ N) := ⟨h.out.trans (List.sublist_append_right _ _)⟩
instance (L M N : List Blk) [h : Sb L M] : Sb L (M ++ N) := ⟨h.out.trans (List.sublist_append_left _ _)⟩
instance (L M : List Blk) (b : Blk) [h : Sb L M] : Sb L (b :: M) := ⟨h.out.cons b⟩
end Go.W

/-
  Walks: points, cross and scalar products, edges.
-/
set_option linter.all false
namespace Go.Proofs.YtjgdklhbegplfaaGreat
open Go Go.W Go.RowKit

def ptCells (p : Pt) : List Value := [I p.x, I p.y]
theorem ptCells_len (p : Pt) : (ptCells p).length = 2 := rfl
def edgeCells (e : Edge') : List Value := [I e.a.x, I e.a.y, I e.b.x, I e.b.y]
theorem edgeCells_len (e : Edge') : (edgeCells e).length = 4 := rfl
structure PtR (p : Pt) : Prop where
  x1 : -16384 ≤ p.x
  x2 : p.x ≤ 16384
  y1 : -16384 ≤ p.y
  y2 : p.y ≤ 16384
theorem ptOk_iff {p : Pt} : ptOk p = true ↔ PtR p := by
  unfold ptOk
  simp only [Bool.and_eq_true, decide_eq_true_eq]
  exact ⟨fun h => ⟨h.1.1.1, h.1.1.2, h.1.2, h.2⟩, fun h => ⟨⟨⟨h.x1, h.x2⟩, h.y1⟩, h.y2⟩⟩
theorem mulAbs {a b A B : Int} (ha : -A ≤ a ∧ a ≤ A) (hb : -B ≤ b ∧ b ≤ B) : -(A * B) ≤ a * b ∧ a * b ≤ A * B := by
  have key : ∀ x y : Int, 0 ≤ x → x ≤ A → 0 ≤ y → y ≤ B → 0 ≤ x * y ∧ x * y ≤ A * B := fun x y h1 h2 h3 h4 => ⟨Int.mul_nonneg h1 h3, Int.mul_le_mul h2 h4 h3 (by omega)⟩
  rcases Int.le_total 0 a with h1 | h1 <;> rcases Int.le_total 0 b with h2 | h2
  · have := key a b h1 (by omega) h2 (by omega); omega
  · have := key a (-b) h1 (by omega) (by omega) (by omega); rw [Int.mul_neg] at this; omega
  · have := key (-a) b (by omega) (by omega) h2 (by omega); rw [Int.neg_mul] at this; omega
  · have := key (-a) (-b) (by omega) (by omega) (by omega) (by omega); rw [Int.neg_mul, Int.mul_neg, Int.neg_neg] at this; omega
theorem mul15 {a b : Int} (ha : -32768 ≤ a ∧ a ≤ 32768) (hb : -32768 ≤ b ∧ b ≤ 32768) : -1073741824 ≤ a * b ∧ a * b ≤ 1073741824 := mulAbs (A := 32768) (B := 32768) ha hb
theorem crs_bd {a b c : Pt} (ha : PtR a) (hb : PtR b) (hc : PtR c) : -2147483648 ≤ crs a b c ∧ crs a b c ≤ 2147483648 := by
  obtain ⟨a1, a2, a3, a4⟩ := ha; obtain ⟨b1, b2, b3, b4⟩ := hb; obtain ⟨c1, c2, c3, c4⟩ := hc
  have h1 := mul15 (a := b.x - a.x) (b := c.y - a.y) (by omega) (by omega)
  have h2 := mul15 (a := b.y - a.y) (b := c.x - a.x) (by omega) (by omega)
  unfold crs; omega
theorem dot_bd {a b c : Pt} (ha : PtR a) (hb : PtR b) (hc : PtR c) : -2147483648 ≤ dotp a b c ∧ dotp a b c ≤ 2147483648 := by
  obtain ⟨a1, a2, a3, a4⟩ := ha; obtain ⟨b1, b2, b3, b4⟩ := hb; obtain ⟨c1, c2, c3, c4⟩ := hc
  have h1 := mul15 (a := b.x - a.x) (b := c.x - a.x) (by omega) (by omega)
  have h2 := mul15 (a := b.y - a.y) (b := c.y - a.y) (by omega) (by omega)
  unfold dotp; omega
theorem ret_b {v : Value} {a b : Bool} (h : v = .bool a) (hb : a = b) : Ending.returned v = .returned (.bool b) := by rw [h, hb]
theorem geoValid (p : Pt) (w0 : World) : Calls Tryz.prog 13 #[.agg #[I p.x, I p.y]] w0 fun e w' => e = .returned (.bool (ptOk p)) ∧ Below w0.heap.size w0 w' := by
  have H := SH.refl w0
  refine Calls.ofWP Tryz.func13 rfl Tryz.results13 Tryz.ntmps13 rfl ?_
  refine WP.seq ?_
  refine WP.region ?_
  refine OPS.box rfl rfl rfl rfl (cA rfl) H ?_
  clear H; intro g1 w H
  refine OPS.val rfl rfl rfl (Ev.asB rfl) ?_
  refine OPS.nil ?_
  refine WP.seq ?_
  refine WP.region ?_
  refine OPS.val rfl rfl rfl (Ev.fieldAddr (fld_run rfl) rfl) ?_
  refine OPS.val rfl rfl rfl (Ev.load1 (agg_run rfl) rfl (by exact H.ldL 0 rfl _ rfl)) ?_
  refine OPS.val rfl rfl rfl (Ev.leq rfl rfl) ?_
  refine OPS.val rfl rfl rfl (Ev.mvB rfl) ?_
  refine OPS.gval rfl rfl rfl rfl rfl (fun hg => Ev.fieldAddr (fld_run rfl) (by rfl)) ?_
  refine OPS.gval rfl rfl rfl rfl rfl (fun hg => Ev.load1 (agg_run rfl) (by exact gvE hg rfl) (by exact H.ldL 0 rfl _ rfl)) ?_
  refine OPS.gval rfl rfl rfl rfl rfl (fun hg => Ev.leq (by exact gvE hg rfl) (by rfl)) ?_
  refine OPS.val rfl rfl rfl ((by exact Ev.pickAnd rfl rfl rfl)) ?_
  refine OPS.val rfl rfl rfl (Ev.mvB rfl) ?_
  refine OPS.gval rfl rfl rfl rfl rfl (fun hg => Ev.fieldAddr (fld_run rfl) (by rfl)) ?_
  refine OPS.gval rfl rfl rfl rfl rfl (fun hg => Ev.load1 (agg_run rfl) (by exact gvE hg rfl) (by exact H.ldL 0 rfl _ rfl)) ?_
  refine OPS.gval rfl rfl rfl rfl rfl (fun hg => Ev.leq (by rfl) (by exact gvE hg rfl)) ?_
  refine OPS.val rfl rfl rfl ((by exact Ev.pickAnd rfl rfl rfl)) ?_
  refine OPS.val rfl rfl rfl (Ev.mvB rfl) ?_
  refine OPS.gval rfl rfl rfl rfl rfl (fun hg => Ev.fieldAddr (fld_run rfl) (by rfl)) ?_
  refine OPS.gval rfl rfl rfl rfl rfl (fun hg => Ev.load1 (agg_run rfl) (by exact gvE hg rfl) (by exact H.ldL 0 rfl _ rfl)) ?_
  refine OPS.gval rfl rfl rfl rfl rfl (fun hg => Ev.leq (by exact gvE hg rfl) (by rfl)) ?_
  refine OPS.val rfl rfl rfl ((by exact Ev.pickAnd rfl rfl rfl)) ?_
  refine OPS.val rfl rfl rfl (Ev.asB rfl) ?_
  refine OPS.nil ?_
  refine WP.ret ⟨_, rfl, ?_⟩
  exact ⟨ret_eq (by unfold ptOk; rfl), H.below⟩
theorem geoCross (a b c : Pt) (ha : PtR a) (hb : PtR b) (hc : PtR c) (w0 : World) : Calls Tryz.prog 44 #[.agg #[I a.x, I a.y], .agg #[I b.x, I b.y], .agg #[I c.x, I c.y]] w0 fun e w' => e = .returned (I (crs a b c)) ∧ Below w0.heap.size w0 w' := by
  have H := SH.refl w0
  obtain ⟨a1, a2, a3, a4⟩ := ha; obtain ⟨b1, b2, b3, b4⟩ := hb; obtain ⟨c1, c2, c3, c4⟩ := hc
  have m1 := mul15 (a := b.x - a.x) (b := c.y - a.y) (by omega) (by omega)
  have m2 := mul15 (a := b.y - a.y) (b := c.x - a.x) (by omega) (by omega)
  refine Calls.ofWP Tryz.func44 rfl Tryz.results44 Tryz.ntmps44 rfl ?_
  refine WP.seq ?_
  refine WP.region ?_
  refine OPS.box rfl rfl rfl rfl (cA rfl) H ?_
  clear H; intro g3 w H
  refine OPS.box rfl rfl rfl rfl (cA rfl) H ?_
  clear H; intro g4 w H
  refine OPS.box rfl rfl rfl rfl (cA rfl) H ?_
  clear H; intro g5 w H
  refine OPS.val rfl rfl rfl (Ev.asI rfl) ?_
  refine OPS.nil ?_
  refine WP.seq ?_
  refine WP.region ?_
  refine OPS.val rfl rfl rfl (Ev.fieldAddr (fld_run rfl) rfl) ?_
  refine OPS.val rfl rfl rfl (Ev.load1 (agg_run rfl) rfl (by exact H.ldL 1 rfl _ rfl)) ?_
  refine OPS.val rfl rfl rfl (Ev.fieldAddr (fld_run rfl) rfl) ?_
  refine OPS.val rfl rfl rfl (Ev.load1 (agg_run rfl) rfl (by exact H.ldL 2 rfl _ rfl)) ?_
  refine OPS.val rfl rfl rfl (Ev.sub rfl rfl (by unfold fits; omega)) ?_
  refine OPS.val rfl rfl rfl (Ev.fieldAddr (fld_run rfl) rfl) ?_
  refine OPS.val rfl rfl rfl (Ev.load1 (agg_run rfl) rfl (by exact H.ldL 0 rfl _ rfl)) ?_
  refine OPS.val rfl rfl rfl (Ev.fieldAddr (fld_run rfl) rfl) ?_
  refine OPS.val rfl rfl rfl (Ev.load1 (agg_run rfl) rfl (by exact H.ldL 2 rfl _ rfl)) ?_
  refine OPS.val rfl rfl rfl (Ev.sub rfl rfl (by unfold fits; omega)) ?_
  refine OPS.val rfl rfl rfl (Ev.mul rfl rfl (by unfold fits; omega)) ?_
  refine OPS.val rfl rfl rfl (Ev.fieldAddr (fld_run rfl) rfl) ?_
  refine OPS.val rfl rfl rfl (Ev.load1 (agg_run rfl) rfl (by exact H.ldL 1 rfl _ rfl)) ?_
  refine OPS.val rfl rfl rfl (Ev.fieldAddr (fld_run rfl) rfl) ?_
  refine OPS.val rfl rfl rfl (Ev.load1 (agg_run rfl) rfl (by exact H.ldL 2 rfl _ rfl)) ?_
  refine OPS.val rfl rfl rfl (Ev.sub rfl rfl (by unfold fits; omega)) ?_
  refine OPS.val rfl rfl rfl (Ev.fieldAddr (fld_run rfl) rfl) ?_
  refine OPS.val rfl rfl rfl (Ev.load1 (agg_run rfl) rfl (by exact H.ldL 0 rfl _ rfl)) ?_
  refine OPS.val rfl rfl rfl (Ev.fieldAddr (fld_run rfl) rfl) ?_
  refine OPS.val rfl rfl rfl (Ev.load1 (agg_run rfl) rfl (by exact H.ldL 2 rfl _ rfl)) ?_
  refine OPS.val rfl rfl rfl (Ev.sub rfl rfl (by unfold fits; omega)) ?_
  refine OPS.val rfl rfl rfl (Ev.mul rfl rfl (by unfold fits; omega)) ?_
  refine OPS.val rfl rfl rfl (Ev.sub rfl rfl (by unfold fits; omega)) ?_
  refine OPS.val rfl rfl rfl (Ev.asI rfl) ?_
  refine OPS.nil ?_
  refine WP.ret ⟨_, rfl, ?_⟩
  exact ⟨rfl, H.below⟩
theorem geoDot (a b c : Pt) (ha : PtR a) (hb : PtR b) (hc : PtR c) (w0 : World) : Calls Tryz.prog 80 #[.agg #[I a.x, I a.y], .agg #[I b.x, I b.y], .agg #[I c.x, I c.y]] w0 fun e w' => e = .returned (I (dotp a b c)) ∧ Below w0.heap.size w0 w' := by
  have H := SH.refl w0
  obtain ⟨a1, a2, a3, a4⟩ := ha; obtain ⟨b1, b2, b3, b4⟩ := hb; obtain ⟨c1, c2, c3, c4⟩ := hc
  have m1 := mul15 (a := b.x - a.x) (b := c.x - a.x) (by omega) (by omega)
  have m2 := mul15 (a := b.y - a.y) (b := c.y - a.y) (by omega) (by omega)
  refine Calls.ofWP Tryz.func80 rfl Tryz.results80 Tryz.ntmps80 rfl ?_
  refine WP.seq ?_
  refine WP.region ?_
  refine OPS.box rfl rfl rfl rfl (cA rfl) H ?_
  clear H; intro g3 w H
  refine OPS.box rfl rfl rfl rfl (cA rfl) H ?_
  clear H; intro g4 w H
  refine OPS.box rfl rfl rfl rfl (cA rfl) H ?_
  clear H; intro g5 w H
  refine OPS.val rfl rfl rfl (Ev.asI rfl) ?_
  refine OPS.nil ?_
  refine WP.seq ?_
  refine WP.region ?_
  refine OPS.val rfl rfl rfl (Ev.fieldAddr (fld_run rfl) rfl) ?_
  refine OPS.val rfl rfl rfl (Ev.load1 (agg_run rfl) rfl (by exact H.ldL 1 rfl _ rfl)) ?_
  refine OPS.val rfl rfl rfl (Ev.fieldAddr (fld_run rfl) rfl) ?_
  refine OPS.val rfl rfl rfl (Ev.load1 (agg_run rfl) rfl (by exact H.ldL 2 rfl _ rfl)) ?_
  refine OPS.val rfl rfl rfl (Ev.sub rfl rfl (by unfold fits; omega)) ?_
  refine OPS.val rfl rfl rfl (Ev.fieldAddr (fld_run rfl) rfl) ?_
  refine OPS.val rfl rfl rfl (Ev.load1 (agg_run rfl) rfl (by exact H.ldL 0 rfl _ rfl)) ?_
  refine OPS.val rfl rfl rfl (Ev.fieldAddr (fld_run rfl) rfl) ?_
  refine OPS.val rfl rfl rfl (Ev.load1 (agg_run rfl) rfl (by exact H.ldL 2 rfl _ rfl)) ?_
  refine OPS.val rfl rfl rfl (Ev.sub rfl rfl (by unfold fits; omega)) ?_
  refine OPS.val rfl rfl rfl (Ev.mul rfl rfl (by unfold fits; omega)) ?_
  refine OPS.val rfl rfl rfl (Ev.fieldAddr (fld_run rfl) rfl) ?_
  refine OPS.val rfl rfl rfl (Ev.load1 (agg_run rfl) rfl (by exact H.ldL 1 rfl _ rfl)) ?_
  refine OPS.val rfl rfl rfl (Ev.fieldAddr (fld_run rfl) rfl) ?_
  refine OPS.val rfl rfl rfl (Ev.load1 (agg_run rfl) rfl (by exact H.ldL 2 rfl _ rfl)) ?_
  refine OPS.val rfl rfl rfl (Ev.sub rfl rfl (by unfold fits; omega)) ?_
  refine OPS.val rfl rfl rfl (Ev.fieldAddr (fld_run rfl) rfl) ?_
  refine OPS.val rfl rfl rfl (Ev.load1 (agg_run rfl) rfl (by exact H.ldL 0 rfl _ rfl)) ?_
  refine OPS.val rfl rfl rfl (Ev.fieldAddr (fld_run rfl) rfl) ?_
  refine OPS.val rfl rfl rfl (Ev.load1 (agg_run rfl) rfl (by exact H.ldL 2 rfl _ rfl)) ?_
  refine OPS.val rfl rfl rfl (Ev.sub rfl rfl (by unfold fits; omega)) ?_
  refine OPS.val rfl rfl rfl (Ev.mul rfl rfl (by unfold fits; omega)) ?_
  refine OPS.val rfl rfl rfl (Ev.add rfl rfl (by unfold fits; omega)) ?_
  refine OPS.val rfl rfl rfl (Ev.asI rfl) ?_
  refine OPS.nil ?_
  refine WP.ret ⟨_, rfl, ?_⟩
  exact ⟨rfl, H.below⟩
theorem geoSign (n : Int) (w0 : World) : Calls Tryz.prog 129 #[I n] w0 fun e w' => e = .returned (I (sgn n)) ∧ Below w0.heap.size w0 w' := by
  have H := SH.refl w0
  refine Calls.ofWP Tryz.func129 rfl Tryz.results129 Tryz.ntmps129 rfl ?_
  refine WP.seq ?_
  refine WP.region ?_
  refine OPS.val rfl rfl rfl (Ev.asI rfl) ?_
  refine OPS.nil ?_
  refine WP.seq ?_
  refine WP.block ?_
  refine WP.seq ?_
  refine WP.region ?_
  refine OPS.val rfl rfl rfl (Ev.mvI rfl) ?_
  refine OPS.val rfl rfl rfl (Ev.gtr rfl rfl) ?_
  refine OPS.val rfl rfl rfl (Ev.asB rfl) ?_
  refine OPS.nil ?_
  refine WP.cond rfl (fun hc1 => ?_) (fun hc1 => ?_)
  · refine WP.seq ?_
    refine WP.region ?_
    refine OPS.val rfl rfl rfl (Ev.asI rfl) ?_
    refine OPS.nil ?_
    refine WP.ret ⟨_, rfl, ?_⟩
    have h : 0 < n := by simpa using hc1
    exact ⟨ret_int (by rw [sgn, if_pos h]), H.below⟩
  refine WP.seq ?_
  refine WP.region ?_
  refine OPS.val rfl rfl rfl (Ev.mvI rfl) ?_
  refine OPS.val rfl rfl rfl (Ev.lss rfl rfl) ?_
  refine OPS.val rfl rfl rfl (Ev.asB rfl) ?_
  refine OPS.nil ?_
  refine WP.cond rfl (fun hc3 => ?_) (fun hc3 => ?_)
  · refine WP.seq ?_
    refine WP.region ?_
    refine OPS.val rfl rfl rfl (Ev.asI rfl) ?_
    refine OPS.nil ?_
    refine WP.ret ⟨_, rfl, ?_⟩
    have h : ¬ 0 < n := by simpa using hc1
    have h2 : n < 0 := by simpa using hc3
    exact ⟨ret_int (by rw [sgn, if_neg h, if_pos h2]), H.below⟩
  refine WP.skip ?_
  refine WP.seq ?_
  refine WP.region ?_
  refine OPS.val rfl rfl rfl (Ev.asI rfl) ?_
  refine OPS.nil ?_
  refine WP.ret ⟨_, rfl, ?_⟩
  have h : ¬ 0 < n := by simpa using hc1
  have h2 : ¬ n < 0 := by simpa using hc3
  exact ⟨ret_int (by rw [sgn, if_neg h, if_neg h2]), H.below⟩
theorem geoHas (e : Edge') (c : Pt) (ha : PtR e.a) (hb : PtR e.b) (hc : PtR c) (w0 : World) : Calls Tryz.prog 43 #[.agg #[I e.a.x, I e.a.y, I e.b.x, I e.b.y], .agg #[I c.x, I c.y]] w0 fun e' w' => e' = .returned (.bool (hasB e.a e.b c)) ∧ Below w0.heap.size w0 w' := by
  have H := SH.refl w0
  refine Calls.ofWP Tryz.func43 rfl Tryz.results43 Tryz.ntmps43 rfl ?_
  refine WP.seq ?_
  refine WP.region ?_
  refine OPS.box rfl rfl rfl rfl (cA rfl) H ?_
  clear H; intro g2 w H
  refine OPS.box rfl rfl rfl rfl (cA rfl) H ?_
  clear H; intro g3 w H
  refine OPS.val rfl rfl rfl (Ev.asB rfl) ?_
  refine OPS.nil ?_
  refine WP.seq ?_
  refine WP.region ?_
  refine OPS.val rfl rfl rfl (Ev.fieldAddr (fld_run rfl) rfl) ?_
  refine OPS.val rfl rfl rfl ((by exact Ev.loadN [_, _] (agg_run rfl) (size_run rfl) rfl ⟨H.ldL 1 rfl _ rfl, H.ldL 1 rfl _ rfl, trivial⟩)) ?_
  refine OPS.val rfl rfl rfl (Ev.fieldAddr (fld_run rfl) rfl) ?_
  refine OPS.val rfl rfl rfl ((by exact Ev.loadN [_, _] (agg_run rfl) (size_run rfl) rfl ⟨H.ldL 1 rfl _ rfl, H.ldL 1 rfl _ rfl, trivial⟩)) ?_
  refine OPS.val rfl rfl rfl ((by exact Ev.loadO 0 H rfl (agg_run rfl) (size_run rfl) (by rfl) rfl)) ?_
  refine OPS.call (d := some 10) rfl rfl rfl (EvC.func (fun_run rfl)) (geoCross e.a e.b c ha hb hc w) ?_
  rintro _ w ⟨rfl, hb⟩
  refine ⟨_, rfl, ?_⟩
  replace H := H.toBelow hb; clear hb
  refine OPS.val rfl rfl rfl (Ev.eql rfl rfl) ?_
  refine OPS.val rfl rfl rfl (Ev.mvB rfl) ?_
  refine OPS.gval rfl rfl rfl rfl rfl (fun hg => (by exact Ev.loadO 0 H rfl (agg_run rfl) (size_run rfl) (by rfl) rfl)) ?_
  refine OPS.gval rfl rfl rfl rfl rfl (fun hg => Ev.fieldAddr (fld_run rfl) (by rfl)) ?_
  refine OPS.gval rfl rfl rfl rfl rfl (fun hg => (by exact Ev.loadN [_, _] (agg_run rfl) (size_run rfl) (by exact gvE hg rfl) ⟨H.ldL 1 rfl _ rfl, H.ldL 1 rfl _ rfl, trivial⟩)) ?_
  refine OPS.gval rfl rfl rfl rfl rfl (fun hg => Ev.fieldAddr (fld_run rfl) (by rfl)) ?_
  refine OPS.gval rfl rfl rfl rfl rfl (fun hg => (by exact Ev.loadN [_, _] (agg_run rfl) (size_run rfl) (by exact gvE hg rfl) ⟨H.ldL 1 rfl _ rfl, H.ldL 1 rfl _ rfl, trivial⟩)) ?_
  refine OPS.gcall0 (f := 80) (geoDot c e.a e.b hc ha hb w) (fun _ _ h => h) rfl rfl rfl rfl rfl (fun hg => EvC.conv (EvC.func (fun_run rfl)) (l3 (by exact gvE hg rfl) (by exact gvE hg rfl) (by exact gvE hg rfl))) ?_
  intro w hbc; replace H := H.toBelow hbc
  refine OPS.gval rfl rfl rfl rfl rfl (fun hg => Ev.leq (by exact gvE hg rfl) (by rfl)) ?_
  refine OPS.val rfl rfl rfl ((by exact Ev.pickAnd rfl rfl rfl)) ?_
  refine OPS.val rfl rfl rfl (Ev.asB rfl) ?_
  refine OPS.nil ?_
  refine WP.ret ⟨_, rfl, ?_⟩
  exact ⟨ret_eq (by unfold hasB; rfl), H.below⟩
end Go.Proofs.YtjgdklhbegplfaaGreat
