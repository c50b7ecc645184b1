/-
  Arguments, read: what the cells of a datum are, type by type.
-/
import Derived.Test.YtfddebpeiilohaaMore
import Derived.Deep.Slices
import Derived.ChangeOld
import Derived.ProofKit
import Derived.OpenShut
set_option linter.all false
namespace Go.W
open Go.RowKit Go.Deep

theorem exists_list {α : Type} {p : Nat → α → Prop} : ∀ (n : Nat), (∀ i, i < n → ∃ a, p i a) → ∃ l : List α, l.length = n ∧ ∀ i (h : i < l.length), p i l[i]
  | 0, _ => ⟨[], rfl, fun i h => absurd h (by simp)⟩
  | n + 1, h => by
    obtain ⟨l, h1, h2⟩ := exists_list (p := p) n fun i hi => h i (by omega)
    obtain ⟨a, ha⟩ := h n (by omega)
    refine ⟨l ++ [a], by simp [h1], fun i hi => ?_⟩
    by_cases hl : i < l.length
    · rw [List.getElem_append_left hl]; exact h2 i hl
    · simp only [List.length_append, List.length_cons, List.length_nil] at hi
      obtain rfl : i = n := by omega
      rw [List.getElem_append_right (by omega)]
      simpa [h1] using ha
section
variable {H : Type} {enc : TypeId × Value → H} {P : Program} {w : World} {base : Nat} {spare : Nat → Bool} {held : Bool}
/-- a datum of type t is some 'a', whose cells are 'cells a', and G holds of it -/
structure Rd (enc : TypeId × Value → H) (P : Program) (w : World) (base : Nat) (spare : Nat → Bool) (held : Bool) (t : TypeId) {α : Type} (cells : α → List Value) (G : α → Prop) : Prop where
  out : ∀ fuel cs x, DataW.trod enc P w base spare held fuel t cs = some x → ∃ a, cs = cells a ∧ G a
theorem Rd.int {t : TypeId} {k : IntKind} (ht : P.underlying t = some (.int k)) : Rd enc P w base spare held t (fun n : Int => [.int k n]) (fun n => (Lit.int k n).wf = true) :=
  ⟨fun _ _ _ h => by obtain ⟨n, h1, _, h2⟩ := DataW.trod_int ht h; exact ⟨n, h1, h2⟩⟩
theorem Rd.bool {t : TypeId} (ht : P.underlying t = some .bool) : Rd enc P w base spare held t (fun b : Bool => [.bool b]) (fun _ => True) :=
  ⟨fun _ _ _ h => by obtain ⟨n, h1, _⟩ := DataW.trod_bool ht h; exact ⟨n, h1, trivial⟩⟩
theorem Rd.mono {t : TypeId} {α : Type} {cells : α → List Value} {G G' : α → Prop} (h : Rd enc P w base spare held t cells G) (hG : ∀ a, G a → G' a) : Rd enc P w base spare held t cells G' :=
  ⟨fun f cs x hx => by obtain ⟨a, h1, h2⟩ := h.out f cs x hx; exact ⟨a, h1, hG a h2⟩⟩
structure SlA (α : Type) where
  A : Option Addr
  cap : Nat
  l : List α
def slCells {α : Type} (s : SlA α) : List Value := [.slice s.A s.l.length s.cap]
structure SlG {α : Type} (w : World) (sz : Nat) (cells : α → List Value) (G : α → Prop) (s : SlA α) : Prop where
  rows : RowsAt sz cells w s.A s.l
  len : s.l.length ≤ maxLen
  all : ∀ a ∈ s.l, G a
  le : s.l.length ≤ s.cap
theorem cellsAt_of {b : Nat} : ∀ (vs : List Value) (o : Nat), (∀ j (h : j < vs.length), w.cell? ⟨b, o + j, none⟩ = some vs[j]) → cellsAt w b o vs
  | [], _, _ => trivial
  | v :: vs, o, h => ⟨h 0 (by simp), cellsAt_of vs (o + 1) fun j hj => by
      have := h (j + 1) (by simpa using hj)
      rw [show o + 1 + j = o + (j + 1) by omega]; exact this⟩
theorem Rd.slice {t e : TypeId} {sz : Nat} {α : Type} {cells : α → List Value} {G : α → Prop} (ht : P.underlying t = some (.slice e)) (hs : P.cellsOf e = sz) (h0 : 0 < sz) (he : Rd enc P w base spare held e cells G) :
    Rd enc P w base spare held t (slCells (α := α)) (SlG w sz cells G) := ⟨fun fuel cs x h => by
  rcases open_slice ht h with ⟨h1, _⟩ | ⟨a, len, cap, m, n, D, Pl, rfl, hb, hl, hm, hmm, _, hx⟩
  · exact ⟨⟨none, 0, []⟩, h1, ⟨RowsAt.nil, by simp, by simp, by simp⟩⟩
  · rw [hs] at hx
    have hlm : len ≤ m := by rw [hmm]; split <;> omega
    obtain ⟨l, h1, h2⟩ := exists_list (p := fun i (q : α) => G q ∧ w.cells? base (a.add (i * sz)) sz = some (cells q)) len fun i hi => by
      obtain ⟨cs', c1, c2⟩ := hx i (by omega)
      obtain ⟨q, rfl, hq⟩ := he.out _ _ _ c2
      exact ⟨q, hq, c1⟩
    refine ⟨⟨some a, cap, l⟩, by simp [slCells, h1], ⟨fun k hk => ?_, ?_, fun q hq => ?_, by show l.length ≤ cap; omega⟩⟩
    · have hk : k < l.length := hk
      obtain ⟨b, o, spot⟩ := a
      have hspot : spot = none := by
        obtain ⟨_, hlen, hc⟩ := World.cells?_some (h2 0 (by omega)).2
        have h3 := hc 0 h0
        rw [List.getElem?_eq_getElem (by omega)] at h3
        simpa [Addr.add] using World.cell?_spot h3
      subst hspot
      refine ⟨b, o, rfl, ?_⟩
      obtain ⟨_, hlen, hc⟩ := World.cells?_some (h2 k hk).2
      refine cellsAt_of _ _ fun j hj => ?_
      have hj : j < (cells l[k]).length := hj
      have h3 := hc j (by omega)
      rw [addr_add, addr_add] at h3
      rw [h3]; exact List.getElem?_eq_getElem hj
    · show l.length ≤ maxLen; omega
    · obtain ⟨i, hi, rfl⟩ := List.mem_iff_getElem.1 hq
      exact (h2 i hi).1⟩
theorem RowsAt.ones {α : Type} {f : α → Value} {A : Option Addr} {l : List α} (h : RowsAt 1 (fun a => [f a]) w A l) : OnesAt f w A l := fun k hk => by
  obtain ⟨b, o, h1, h2⟩ := h k hk
  exact ⟨b, o, h1, by simpa using h2.1⟩
/-- fields of a struct, from an offset on -/
structure RdF (enc : TypeId × Value → H) (P : Program) (w : World) (base : Nat) (spare : Nat → Bool) (held : Bool) (fs : List Field) (off tot : Nat) {α : Type} (cells : α → List Value) (G : α → Prop) : Prop where
  out : ∀ cs : List Value, cs.length = tot → (∀ (i : Nat) (f : Field), fs[i]? = some f → ∃ n x, DataW.trod enc P w base spare held n f.type ((cs.drop f.offset).take (P.cellsOf f.type)) = some x) → ∃ a, cs.drop off = cells a ∧ G a
theorem RdF.nil {off : Nat} : RdF enc P w base spare held [] off off (fun _ : Unit => []) (fun _ => True) := ⟨fun cs h _ => ⟨(), by rw [List.drop_eq_nil_of_le (by omega)], trivial⟩⟩
theorem RdF.cons {f : Field} {fs : List Field} {off tot sz : Nat} {α β : Type} {cA : α → List Value} {cB : β → List Value} {GA : α → Prop} {GB : β → Prop} {T : TypeId} (hA : Rd enc P w base spare held T cA GA) (hT : f.type = T) (ho : f.offset = off) (hs : P.cellsOf T = sz)
    (hB : RdF enc P w base spare held fs (off + sz) tot cB GB) : RdF enc P w base spare held (f :: fs) off tot (fun p : α × β => cA p.1 ++ cB p.2) (fun p => GA p.1 ∧ GB p.2) := ⟨fun cs hl h => by
  subst hT
  obtain ⟨n, x, hx⟩ := h 0 f rfl
  obtain ⟨a, ha, ga⟩ := hA.out _ _ _ hx
  obtain ⟨b, hb, gb⟩ := hB.out cs hl fun i f' hf => h (i + 1) f' (by simpa using hf)
  refine ⟨(a, b), ?_, ga, gb⟩
  rw [ho, hs] at ha
  simp only
  rw [← ha, ← hb, ← List.drop_drop, List.take_append_drop]⟩
theorem Rd.struct {t : TypeId} {fs : List Field} {tot : Nat} {α : Type} {cells : α → List Value} {G : α → Prop} (ht : P.underlying t = some (.struct fs.toArray)) (hs : P.cellsOf t = tot) (hF : RdF enc P w base spare held fs 0 tot cells G) : Rd enc P w base spare held t cells G := ⟨fun fuel cs x h => by
  obtain ⟨xs, n, _, _, hl, hxl, hx⟩ := DataW.trod_struct ht h
  obtain ⟨a, h1, h2⟩ := hF.out cs (by omega) fun i f hf => by
    have h3 := hx i f (by simpa using hf)
    have hi : i < fs.length := (List.getElem?_eq_some_iff.1 hf).1
    rw [List.getElem?_eq_getElem (by simp at hxl; omega)] at h3
    exact ⟨n, _, h3⟩
  exact ⟨a, by simpa using h1, h2⟩⟩
/-- an array of three elements of one cell -/
theorem Rd.array3 {t e : TypeId} {α : Type} {f : α → Value} {G : α → Prop} (ht : P.underlying t = some (.array 3 e)) (hs : P.cellsOf e = 1) (hc : P.cellsOf t = 3) (he : Rd enc P w base spare held e (fun a => [f a]) G) :
    Rd enc P w base spare held t (fun p : α × α × α => [f p.1, f p.2.1, f p.2.2]) (fun p => G p.1 ∧ G p.2.1 ∧ G p.2.2) := ⟨fun fuel cs x h => by
  obtain ⟨xs, m, _, _, hl, hxl, hx⟩ := DataW.trod_array ht h
  rw [hs] at hx
  have hl3 : cs.length = 3 := by rw [hl, hc]
  match cs, hl3 with
  | [c0, c1, c2], _ =>
    have g : ∀ i (hi : i < 3), ∃ a, (([c0, c1, c2] : List Value).drop (i * 1)).take 1 = [f a] ∧ G a := fun i hi => by
      have h3 := hx i hi
      rw [List.getElem?_eq_getElem (by omega)] at h3
      exact he.out _ _ _ h3
    obtain ⟨a0, h0, g0⟩ := g 0 (by omega)
    obtain ⟨a1, h1, g1⟩ := g 1 (by omega)
    obtain ⟨a2, h2, g2⟩ := g 2 (by omega)
    simp at h0 h1 h2
    subst h0 h1 h2
    exact ⟨(a0, a1, a2), rfl, g0, g1, g2⟩⟩
theorem okWide_array {r : Reach} {t e : TypeId} {n : Nat} {v : Value} (ht : P.underlying t = some (.array n e)) (h : Value.okWide P w r base t v) : ∃ cs, v = .agg cs ∧ cs.size = P.cellsOf t := by
  simp only [Value.okWide, ht] at h
  obtain ⟨cs, h1, h2, _⟩ := h
  exact ⟨cs, h1, h2⟩
theorem Rd.conv {t : TypeId} {α β : Type} {cells : α → List Value} {G : α → Prop} (h : Rd enc P w base spare held t cells G) (f : α → β) {cells' : β → List Value} {G' : β → Prop} (hc : ∀ a, cells a = cells' (f a)) (hG : ∀ a, G a → G' (f a)) : Rd enc P w base spare held t cells' G' :=
  ⟨fun fu cs x hx => by obtain ⟨a, h1, h2⟩ := h.out fu cs x hx; exact ⟨f a, h1.trans (hc a), hG a h2⟩⟩
/-- of an argument -/
theorem Rd.arg1 {t : TypeId} {α : Type} {f : α → Value} {G : α → Prop} {v : Value} {d : DataW H} {p : List MemPlace} (h : Rd enc P w base spare held t (fun a => [f a]) G) (hv : v.cells = #[v]) (ht : DataW.Trod enc P w base spare held t v d p) : ∃ a, v = f a ∧ G a := by
  obtain ⟨fuel, hf⟩ := ht
  obtain ⟨a, h1, h2⟩ := h.out _ _ _ hf
  rw [hv] at h1
  simp at h1
  exact ⟨a, h1, h2⟩
theorem Rd.argN {t : TypeId} {α : Type} {cells : α → List Value} {G : α → Prop} {vs : Array Value} {d : DataW H} {p : List MemPlace} (h : Rd enc P w base spare held t cells G) (ht : DataW.Trod enc P w base spare held t (.agg vs) d p) : ∃ a, vs = (cells a).toArray ∧ G a := by
  obtain ⟨fuel, hf⟩ := ht
  obtain ⟨a, h1, h2⟩ := h.out _ _ _ hf
  refine ⟨a, ?_, h2⟩
  have : vs.toList = cells a := by simpa [Value.cells] using h1
  rw [← this]
end
theorem wf_i64 {n : Int} (h : (Lit.int .i64 n).wf = true) : -9223372036854775808 ≤ n ∧ n ≤ 9223372036854775807 := by
  exact bounds_i64 h
end Go.W
