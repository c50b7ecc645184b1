/-
  Walks: do.
-/
import Derived.Test.YtchjbjplddhknaaW8
import Derived.Test.YtchjbjplddhknaaW5
import Derived.DeepKeys4
import Derived.Shelf.SlSortCmp.NoneTotal
set_option linter.all false
namespace Go.Proofs.Ytchjbjplddhknaa
open Go Go.W Go.RowKit
open Go.Maps (Keyed int_keyed keyOf_int_mk)

def opnI (i : Int) (l : List Spt) : Option Nat := l.findIdx? fun s => decide (s.wh = 3) && decide (s.ri = i)
def doS (σ : Sta) (x : Evt) : Sta :=
  let b := x.b.toNat
  if x.k = 1 then ⟨σ.sp.set b ⟨1, x.p, 0, false, 0⟩, σ.us⟩
  else if x.k = 2 then ⟨σ.sp.set b ⟨2, x.p, 0, false, 0⟩, σ.us⟩
  else if x.k = 3 then ⟨σ.sp.set b ⟨3, 0, x.i, false, x.r⟩, x.i :: σ.us⟩
  else if x.k = 4 then (match opnI x.i σ.sp with
    | none => σ
    | some c => ⟨(σ.sp.set c (σ.sp.getD b default)).set b ⟨3, 0, x.i, false, (σ.sp.getD c default).who⟩, σ.us⟩)
  else if x.k = 5 ∨ x.k = 6 then ⟨σ.sp.set b { σ.sp.getD b default with pa := decide (x.k = 5) }, σ.us⟩
  else if x.k = 7 then ⟨σ.sp.set b ⟨4, x.p, 0, false, 0⟩, σ.us⟩
  else if x.k = 8 then ⟨σ.sp.set b ⟨5, 0, 0, false, 0⟩, σ.us⟩
  else if x.k = 9 then ⟨σ.sp.set b ⟨6, 0, 0, false, 0⟩, σ.us⟩
  else σ
theorem do1 {σ : Sta} {x : Evt} (h : x.k = 1) : doS σ x = ⟨σ.sp.set x.b.toNat ⟨1, x.p, 0, false, 0⟩, σ.us⟩ := by simp [doS, h]
theorem do2 {σ : Sta} {x : Evt} (h : x.k = 2) : doS σ x = ⟨σ.sp.set x.b.toNat ⟨2, x.p, 0, false, 0⟩, σ.us⟩ := by simp [doS, h]
theorem do3 {σ : Sta} {x : Evt} (h : x.k = 3) : doS σ x = ⟨σ.sp.set x.b.toNat ⟨3, 0, x.i, false, x.r⟩, x.i :: σ.us⟩ := by simp [doS, h]
theorem do4 {σ : Sta} {x : Evt} {c : Nat} (h : x.k = 4) (ho : opnI x.i σ.sp = some c) : doS σ x = ⟨(σ.sp.set c (σ.sp.getD x.b.toNat default)).set x.b.toNat ⟨3, 0, x.i, false, (σ.sp.getD c default).who⟩, σ.us⟩ := by simp [doS, h, ho]
theorem do56 {σ : Sta} {x : Evt} (h : x.k = 5 ∨ x.k = 6) : doS σ x = ⟨σ.sp.set x.b.toNat { σ.sp.getD x.b.toNat default with pa := decide (x.k = 5) }, σ.us⟩ := by rcases h with h | h <;> simp [doS, h]
theorem do7 {σ : Sta} {x : Evt} (h : x.k = 7) : doS σ x = ⟨σ.sp.set x.b.toNat ⟨4, x.p, 0, false, 0⟩, σ.us⟩ := by simp [doS, h]
theorem do8 {σ : Sta} {x : Evt} (h : x.k = 8) : doS σ x = ⟨σ.sp.set x.b.toNat ⟨5, 0, 0, false, 0⟩, σ.us⟩ := by simp [doS, h]
theorem do9 {σ : Sta} {x : Evt} (h : x.k = 9) : doS σ x = ⟨σ.sp.set x.b.toNat ⟨6, 0, 0, false, 0⟩, σ.us⟩ := by simp [doS, h]
theorem do0 {σ : Sta} {x : Evt} (h : x.k ≠ 1 ∧ x.k ≠ 2 ∧ x.k ≠ 3 ∧ x.k ≠ 4 ∧ x.k ≠ 5 ∧ x.k ≠ 6 ∧ x.k ≠ 7 ∧ x.k ≠ 8 ∧ x.k ≠ 9) : doS σ x = σ := by simp [doS, h]
/-- a block of the state that may change -/
def StB (l : Loc) (σ : Sta) (tg : Nat → Nat) (g : Nat) : Prop := g = l.gP ∨ g = l.gO ∨ g = l.gU ∨ ∃ b, ∃ h : b < σ.sp.length, σ.sp[b].wh = 3 ∧ g = tg b
/-- what a call that changes the state leaves -/
def Done (w0 w : World) (l : Loc) (σ : Sta) (tg : Nat → Nat) (σ' : Sta) : Prop := ∃ (S : List Nat) (tg' : Nat → Nat), SH w0 S w [] ∧ (∀ g ∈ S, l.g0 ≤ g) ∧ (∀ g ∈ S, w0.heap.size ≤ g ∨ StB l σ tg g) ∧ Rep w l σ' tg'
theorem Done.of {w0 w w' : World} {l : Loc} {σ σ' : Sta} {tg tg' : Nat → Nat} {L : List Blk} {S : List Nat} (H : SH w0 [] w L) (Hc : SH w S w' []) (hS : ∀ g ∈ S, l.g0 ≤ g) (hT : ∀ g ∈ S, w0.heap.size ≤ g ∨ StB l σ tg g) (hR : Rep w' l σ' tg') : Done w0 w' l σ tg σ' :=
  ⟨S, tg', by
    have h := SH.back ((H.weak (S' := S) (by simp)).drop (List.nil_sublist _)) Hc (fun g hg => ⟨.inr hg, by simp⟩)
    simpa using h, hS, hT, hR⟩
section
variable {w w' w0 : World} {l : Loc} {σ : Sta} {tg tg' : Nat → Nat} {L : List Blk} {S : List Nat}
/-- a ride begins at the bicycle j, which was in none -/
theorem Rep.started (h : Rep w0 l σ tg) {j : Nat} (hj : j < σ.sp.length) {s : Spt} (hs : s.wh = 3) (hp : prk σ.sp[j] = true) {g : Nat} (HF : SH w0 S w (⟨g, 104, [I s.who, I j, .bool s.pa]⟩ :: ⟨l.gP, 42, (σ.sp.set j s).flatMap spC⟩ :: L)) (hS : ∀ g ∈ S, l.g0 ≤ g) (hgS : l.gS ∉ S) (hg : l.g0 ≤ g) {m mu : List (Value × Value)}
    (hST : ∀ b, ∀ h : b < σ.sp.length, σ.sp[b].wh = 3 → tg b ∉ S) (hM : MapAt Try.prog 3 w l.gO (m ++ [(I s.ri, .pointer (some ⟨g, 0, none⟩))]))
    (hm : ∀ p, p ∈ m ↔ ∃ b, ∃ h : b < σ.sp.length, σ.sp[b].wh = 3 ∧ p = (I σ.sp[b].ri, .pointer (some ⟨tg b, 0, none⟩))) (hMu : MapAt Try.prog 3 w l.gU mu) {us' : List Int} (hmu : ∀ p, p ∈ mu ↔ ∃ i ∈ us', p = (I i, .bool true)) : Rep w l ⟨σ.sp.set j s, us'⟩ (fun b => if b = j then g else tg b) := by
  have hnj : σ.sp[j].wh ≠ 3 := by
    intro he
    rw [prk, he] at hp
    simp at hp
  have hlen : (σ.sp.set j s).length = σ.sp.length := by simp
  have hself : ∀ hb : j < (σ.sp.set j s).length, (σ.sp.set j s)[j] = s := fun hb => List.getElem_set_self _
  have hoth : ∀ b, ∀ hb : b < (σ.sp.set j s).length, b ≠ j → (σ.sp.set j s)[b] = σ.sp[b]'(by omega) := fun b hb he => List.getElem_set_ne (Ne.symm he) _
  refine h.next HF hS hgS hlen (HF.own ⟨l.gP, 42, (σ.sp.set j s).flatMap spC⟩ (by simp)) ⟨_, hM, fun p => ?_⟩ ⟨mu, hMu, hmu⟩ ?_ ?_
  · rw [List.mem_append, List.mem_singleton, hm]
    constructor
    · rintro (⟨b, hb, hwb, rfl⟩ | rfl)
      · have hbj : b ≠ j := fun he => by subst he; exact hnj hwb
        exact ⟨b, by omega, by rw [hoth b (by omega) hbj]; exact hwb, by rw [hoth b (by omega) hbj, if_neg hbj]⟩
      · exact ⟨j, by omega, by rw [hself]; exact hs, by rw [hself, if_pos rfl]⟩
    · rintro ⟨b, hb, hwb, rfl⟩
      by_cases hbj : b = j
      · subst hbj
        exact .inr (by rw [hself, if_pos rfl])
      · rw [hoth b hb hbj] at hwb
        exact .inl ⟨b, by omega, hwb, by rw [hoth b hb hbj, if_neg hbj]⟩
  · intro b hb hwb
    by_cases hbj : b = j
    · subst hbj
      rw [hself, if_pos rfl]
      exact HF.own ⟨g, 104, [I s.who, I b, .bool s.pa]⟩ (by simp)
    · rw [hoth b hb hbj] at hwb ⊢
      rw [if_neg hbj]
      have ht := h.tr b (by omega) hwb
      rw [HF.low (tg b) (Array.getElem?_eq_some_iff.1 ht).1 (hST b (by omega) hwb)]
      exact ht
  · intro b hb hwb
    by_cases hbj : b = j
    · rw [if_pos hbj]; exact hg
    · rw [hoth b hb hbj] at hwb
      rw [if_neg hbj]
      exact h.fr.2.2.2.2 b (by omega) hwb
/-- the ride of the bicycle c goes on at the bicycle j, and j is where c was -/
theorem Rep.swapped (h : Rep w0 l σ tg) {j c : Nat} (hj : j < σ.sp.length) (hc : c < σ.sp.length) (hw : σ.sp[c].wh = 3) (hp : prk σ.sp[j] = true) {s : Spt} (hs : s.wh = 3) (hsr : s.ri = σ.sp[c].ri) {g3 g4 : Nat} {cs3 cs4 : List Value} (HF : SH w0 [l.gP, tg c, g4, g3] w [⟨l.gP, 42, ((σ.sp.set c σ.sp[j]).set j s).flatMap spC⟩, ⟨tg c, 104, [I s.who, I j, .bool s.pa]⟩, ⟨g4, 42, cs4⟩, ⟨g3, 56, cs3⟩])
    (hS : ∀ g ∈ [l.gP, tg c, g4, g3], l.g0 ≤ g) (hgS : l.gS ∉ [l.gP, tg c, g4, g3]) (hOS : l.gO ∉ [l.gP, tg c, g4, g3]) (hUS : l.gU ∉ [l.gP, tg c, g4, g3]) (hST : ∀ b, ∀ h : b < σ.sp.length, σ.sp[b].wh = 3 → tg b ≠ g4 ∧ tg b ≠ g3) :
    Rep w l ⟨(σ.sp.set c σ.sp[j]).set j s, σ.us⟩ (fun b => if b = j then tg c else tg b) := by
  have hnj : σ.sp[j].wh ≠ 3 := by
    intro he
    rw [prk, he] at hp
    simp at hp
  have hcj : c ≠ j := fun he => by subst he; exact hnj hw
  have hlen : ((σ.sp.set c σ.sp[j]).set j s).length = σ.sp.length := by simp
  have hself : ∀ hb : j < ((σ.sp.set c σ.sp[j]).set j s).length, ((σ.sp.set c σ.sp[j]).set j s)[j] = s := fun hb => List.getElem_set_self _
  have hcc : ∀ hb : c < ((σ.sp.set c σ.sp[j]).set j s).length, ((σ.sp.set c σ.sp[j]).set j s)[c] = σ.sp[j] := fun hb => by rw [List.getElem_set_ne (Ne.symm hcj), List.getElem_set_self]
  have hoth : ∀ b, ∀ hb : b < ((σ.sp.set c σ.sp[j]).set j s).length, b ≠ j → b ≠ c → ((σ.sp.set c σ.sp[j]).set j s)[b] = σ.sp[b]'(by omega) := fun b hb he he2 => by rw [List.getElem_set_ne (Ne.symm he), List.getElem_set_ne (Ne.symm he2)]
  obtain ⟨m, hM, hm⟩ := h.op
  obtain ⟨mu, hMu, hmu⟩ := h.us
  have hne : ∀ b, ∀ hb : b < ((σ.sp.set c σ.sp[j]).set j s).length, b ≠ j → ((σ.sp.set c σ.sp[j]).set j s)[b].wh = 3 → b ≠ c := fun b hb hbj hwb he => by
    subst he
    rw [hcc] at hwb
    exact hnj hwb
  refine h.next HF hS hgS hlen (HF.own ⟨l.gP, 42, ((σ.sp.set c σ.sp[j]).set j s).flatMap spC⟩ (by simp)) ⟨m, hM.sh HF hOS, fun p => (hm p).trans ⟨?_, ?_⟩⟩ ⟨mu, hMu.sh HF hUS, hmu⟩ ?_ ?_
  · rintro ⟨b, hb, hwb, rfl⟩
    by_cases hbc : b = c
    · subst hbc
      exact ⟨j, by omega, by rw [hself]; exact hs, by rw [hself, if_pos rfl, hsr]⟩
    · have hbj : b ≠ j := fun he => by subst he; exact hnj hwb
      exact ⟨b, by omega, by rw [hoth b (by omega) hbj hbc]; exact hwb, by rw [hoth b (by omega) hbj hbc, if_neg hbj]⟩
  · rintro ⟨b, hb, hwb, rfl⟩
    by_cases hbj : b = j
    · subst hbj
      exact ⟨c, hc, hw, by rw [hself, if_pos rfl, hsr]⟩
    · have hbc := hne b hb hbj hwb
      rw [hoth b hb hbj hbc] at hwb
      exact ⟨b, by omega, hwb, by rw [hoth b hb hbj hbc, if_neg hbj]⟩
  · intro b hb hwb
    by_cases hbj : b = j
    · subst hbj
      rw [hself, if_pos rfl]
      exact HF.own ⟨tg c, 104, [I s.who, I b, .bool s.pa]⟩ (by simp)
    · have hbc := hne b hb hbj hwb
      rw [hoth b hb hbj hbc] at hwb ⊢
      rw [if_neg hbj]
      have ht := h.tr b (by omega) hwb
      have h2 := h.nT (by omega) hwb
      have h3 : tg b ≠ tg c := fun he => hbc (h.inj (by omega) hc hwb hw he)
      have h4 := hST b (by omega) hwb
      rw [HF.low (tg b) (Array.getElem?_eq_some_iff.1 ht).1 (by simpa using ⟨h2.2.1, h3, h4.1, h4.2⟩)]
      exact ht
  · intro b hb hwb
    by_cases hbj : b = j
    · rw [if_pos hbj]; exact h.fr.2.2.2.2 c hc hw
    · have hbc := hne b hb hbj hwb
      rw [hoth b hb hbj hbc] at hwb
      rw [if_neg hbj]
      exact h.fr.2.2.2.2 b (by omega) hwb
/-- the bicycle of a ride that is open -/
theorem Rep.openI (h : Rep w0 l σ tg) {i : Int} {t : Spt} (ho : opn i σ.sp = some t) : ∃ c, ∃ hc : c < σ.sp.length, opnI i σ.sp = some c ∧ σ.sp[c] = t ∧ σ.sp[c].wh = 3 ∧ σ.sp[c].ri = i := by
  have ht : (decide (t.wh = 3) && decide (t.ri = i)) = true := List.find?_some (p := fun s : Spt => decide (s.wh = 3) && decide (s.ri = i)) ho
  have ht' : t.wh = 3 ∧ t.ri = i := by simpa using ht
  obtain ⟨b, hb, rfl⟩ := List.mem_iff_getElem.1 (List.mem_of_find?_eq_some ho)
  cases hI : opnI i σ.sp with
  | none =>
    rw [opnI, List.findIdx?_eq_none_iff] at hI
    have := hI _ (List.getElem_mem hb)
    simp [ht'] at this
  | some c =>
    rw [opnI, List.findIdx?_eq_some_iff_getElem] at hI
    obtain ⟨hc, h1, _⟩ := hI
    have h2 : σ.sp[c].wh = 3 ∧ σ.sp[c].ri = i := by simpa using h1
    have : c = b := h.uni hc hb h2.1 ht'.1 (h2.2.trans ht'.2.symm)
    subst this
    exact ⟨c, hc, rfl, rfl, h2⟩
end
theorem OPS.boxB {P : Program} {N : Nat} {ops : Array Oper} {K : Env → World → Prop} {e : Env} {w w0 : World} {S : List Nat} {L : List Blk} {rest : List Oper} {o : Oper} {t : TypeId} {x : Operand} {d : Nat} {cs : List Value} (hg : o.guard = none) (hd : o.dst = some d) (hN : Nat.blt d N = true) (hop : o.op = .box t x) (hx : (ev e x).cells = cs.toArray) (H : SH w0 S w L)
    (h : ∀ g w', Below w.heap.size w w' → SH w0 S w' (⟨g, t, cs⟩ :: L) → OPS P N .plain ops K rest (upd e d (.pointer (some ⟨g, 0, none⟩))) w') : OPS P N .plain ops K (o :: rest) e w :=
  OPS.act (v := .pointer (some ⟨w.heap.size, 0, none⟩)) (w' := w.alloc (.cells cs.toArray t)) hg hd hN (by unfold execOp; rw [hop]; simp [Instr.box, newVar, newRow, newObj, Sem.run, hx]) (h _ _ ((Below.refl _ _).alloc (Nat.le_refl _) _) (H.alloc t cs))
theorem doneS (l : Loc) (σ : Sta) (tg : Nat → Nat) (x : Evt) (w0 : World) (h : Rep w0 l σ tg) (hx : chk l.f x = 0) (hc : chkS l.f σ x = 0) (hus : ∀ s ∈ σ.sp, s.wh = 3 → s.ri ∈ σ.us) :
    Calls Try.prog 32 #[.pointer (some ⟨l.gS, 0, none⟩), .agg (evC x).toArray] w0 fun e w' => e = .returned (.tuple #[]) ∧ Done w0 w' l σ tg (doS σ x) := by
  have H := SH.refl w0
  have hr := right_of hx
  obtain ⟨j, hxb⟩ : ∃ j : Nat, x.b = j := ⟨x.b.toNat, by have := hr.b; omega⟩
  have hbt : x.b.toNat = j := by omega
  have hlen := h.len
  have hsm := h.small
  have hjl : j < σ.sp.length := by have := hr.b; omega
  have hspt : spt σ x = σ.sp[j] := by rw [spt, hxb, Int.toNat_natCast, List.getD_eq_getElem?_getD, List.getElem?_eq_getElem hjl]; rfl
  have hgd : σ.sp.getD j default = σ.sp[j] := by rw [List.getD_eq_getElem?_getD, List.getElem?_eq_getElem hjl]; rfl
  have hgP : ∀ g ∈ [l.gP, l.gO], l.g0 ≤ g := by simpa using ⟨h.fr.2.1, h.fr.2.2.1⟩
  have hgT : ∀ g ∈ [l.gP, l.gO], w0.heap.size ≤ g ∨ StB l σ tg g := by
    intro g hg
    simp only [List.mem_cons, List.not_mem_nil, or_false] at hg
    unfold StB
    rcases hg with rfl | rfl
    · exact .inr (.inl rfl)
    · exact .inr (.inr (.inl rfl))
  obtain ⟨σ', hσ⟩ : ∃ σ', doS σ x = σ' := ⟨_, rfl⟩
  rw [hσ]
  have hlt0 : l.g0 ≤ w0.heap.size := by have := (Array.getElem?_eq_some_iff.1 h.st).1; have := h.fr.1; omega
  have lS : l.gS < w0.heap.size := (Array.getElem?_eq_some_iff.1 h.st).1
  have lP : l.gP < w0.heap.size := (Array.getElem?_eq_some_iff.1 h.sp).1
  obtain ⟨m, hM, hm⟩ := h.op
  obtain ⟨mu, hMu, hmu⟩ := h.us
  have lO : l.gO < w0.heap.size := hM.lt
  have lU : l.gU < w0.heap.size := hMu.lt
  have cO := h.cell (k := 6) rfl
  have cU := h.cell (k := 7) rfl
  have cP := h.cell (k := 5) rfl
  have nSP := h.nSP
  have nSO := h.nSO
  have nSU := h.nSU
  have nPO := h.nPO
  have nPU := h.nPU
  have nOU := h.nOU
  have hkl : keyOf Try.prog 3 (I x.i) = some (.int .i64 x.i) := keyOf_int_mk Try.underlying3 (wfI hr.i)
  rw [show x = ⟨x.d, x.s, x.a, x.l, x.k, x.b, x.p, x.r, x.i⟩ from rfl]
  unfold evC
  simp only [hxb]
  refine Calls.ofWP Try.func32 rfl Try.results32 Try.ntmps32 rfl ?_
  refine WP.seq ?_
  refine WP.region ?_
  refine OPS.box rfl rfl rfl rfl (cA rfl) H ?_
  clear H; intro g3 w H
  refine OPS.nil ?_
  refine WP.seq ?_
  refine WP.region ?_
  refine OPS.val rfl rfl rfl (Ev.fieldAddr (fld_run rfl) rfl) ?_
  refine OPS.val rfl rfl rfl (Ev.load1 (agg_run rfl) rfl (by first | exact H.ldL 0 rfl _ rfl | exact H.ldL 1 rfl _ rfl | exact H.ldL 2 rfl _ rfl | exact H.ldL 3 rfl _ rfl | exact H.ldL 4 rfl _ rfl | exact H.ldL 5 rfl _ rfl | exact H.ldL 6 rfl _ rfl | exact H.ldL 7 rfl _ rfl | exact H.ld0 (by assumption) | assumption | exact H.ldS (by assumption) (by assumption))) ?_
  refine OPS.val rfl rfl rfl (Ev.build (bld_42_0_2 rfl rfl)) ?_
  refine OPS.alloc rfl rfl rfl rfl (zero_run rfl) rfl H ?_
  clear H; intro g4 w H
  first | refine OPS.store 0 _ rfl rfl rfl (size_run rfl) rfl (cA rfl) rfl rfl H rfl (by simp) ?_ | refine OPS.store 1 _ rfl rfl rfl (size_run rfl) rfl (cA rfl) rfl rfl H rfl (by simp) ?_ | refine OPS.store 2 _ rfl rfl rfl (size_run rfl) rfl (cA rfl) rfl rfl H rfl (by simp) ?_ | refine OPS.store 3 _ rfl rfl rfl (size_run rfl) rfl (cA rfl) rfl rfl H rfl (by simp) ?_ | refine OPS.store 4 _ rfl rfl rfl (size_run rfl) rfl (cA rfl) rfl rfl H rfl (by simp) ?_ | refine OPS.store 5 _ rfl rfl rfl (size_run rfl) rfl (cA rfl) rfl rfl H rfl (by simp) ?_ | refine OPS.store 6 _ rfl rfl rfl (size_run rfl) rfl (cA rfl) rfl rfl H rfl (by simp) ?_ | refine OPS.store 7 _ rfl rfl rfl (size_run rfl) rfl (cA rfl) rfl rfl H rfl (by simp) ?_ | refine OPS.store 8 _ rfl rfl rfl (size_run rfl) rfl (cA rfl) rfl rfl H rfl (by simp) ?_
  clear H; intro w H; try simp only [List.set_cons_zero, List.set_cons_succ, putL, Nat.zero_add] at H
  refine OPS.nil ?_
  refine WP.seq ?_
  refine WP.region ?_
  refine OPS.val rfl rfl rfl (Ev.fieldAddr (fld_run rfl) rfl) ?_
  refine OPS.val rfl rfl rfl (Ev.load1 (agg_run rfl) rfl (by first | exact H.ldL 0 rfl _ rfl | exact H.ldL 1 rfl _ rfl | exact H.ldL 2 rfl _ rfl | exact H.ldL 3 rfl _ rfl | exact H.ldL 4 rfl _ rfl | exact H.ldL 5 rfl _ rfl | exact H.ldL 6 rfl _ rfl | exact H.ldL 7 rfl _ rfl | exact H.ld0 (by assumption) | assumption | exact H.ldS (by assumption) (by assumption))) ?_
  refine OPS.nil ?_
  refine WP.block ?_
  refine WP.seq ?_
  refine WP.region ?_
  refine OPS.val rfl rfl rfl (Ev.eql rfl rfl) ?_
  refine OPS.val rfl rfl rfl (Ev.asB rfl) ?_
  refine OPS.nil ?_
  refine WP.cond rfl (fun hc3 => ?_) (fun hc3 => ?_)
  · refine WP.region ?_
    refine OPS.val rfl rfl rfl (Ev.mvP rfl) ?_
    refine OPS.val rfl rfl rfl (Ev.fieldAddr (fld_run rfl) rfl) ?_
    refine OPS.val rfl rfl rfl (Ev.load1 (agg_run rfl) rfl (by first | exact H.ldL 0 rfl _ rfl | exact H.ldL 1 rfl _ rfl | exact H.ldL 2 rfl _ rfl | exact H.ldL 3 rfl _ rfl | exact H.ldL 4 rfl _ rfl | exact H.ldL 5 rfl _ rfl | exact H.ldL 6 rfl _ rfl | exact H.ldL 7 rfl _ rfl | exact H.ld0 (by assumption) | assumption | exact H.ldS (by assumption) (by assumption))) ?_
    refine OPS.val rfl rfl rfl (Ev.fieldAddr (fld_run rfl) rfl) ?_
    refine OPS.val rfl rfl rfl (Ev.load1 (agg_run rfl) rfl (by first | exact H.ldL 0 rfl _ rfl | exact H.ldL 1 rfl _ rfl | exact H.ldL 2 rfl _ rfl | exact H.ldL 3 rfl _ rfl | exact H.ldL 4 rfl _ rfl | exact H.ldL 5 rfl _ rfl | exact H.ldL 6 rfl _ rfl | exact H.ldL 7 rfl _ rfl | exact H.ld0 (by assumption) | assumption | exact H.ldS (by assumption) (by assumption))) ?_
    refine OPS.val rfl rfl rfl (Ev.build (bld_42_0_1 rfl rfl)) ?_
    refine OPS.call (d := some 19) rfl rfl rfl (EvC.func (fun_run rfl)) (leaveS l σ tg j hjl ⟨1, x.p, 0, false, 0⟩ (by simp) w (h.sh H)) ?_
    rintro _ w ⟨rfl, Hc, hR⟩
    refine ⟨_, rfl, ?_⟩
    have HD : Done w0 w l σ tg σ' := by rw [← hσ, do1 (by simpa using hc3), hbt]; exact Done.of H Hc hgP hgT hR
    refine OPS.nil ?_
    refine ⟨_, rfl, ?_⟩
    refine ⟨rfl, ?_⟩
    first
      | exact HD
      | (have k1 : ¬ x.k = 1 := by simpa using hc3
         have k2 : ¬ x.k = 2 := by simpa using hc5
         have k3 : ¬ x.k = 3 := by simpa using hc7
         have k4 : ¬ x.k = 4 := by simpa using hc11
         have k5 : ¬ x.k = 5 := by simpa using hc16
         have k6 : ¬ x.k = 6 := by first | simpa using hc17 | (exfalso; simp_all)
         have k7 : ¬ x.k = 7 := by simpa using hc19
         have k8 : ¬ x.k = 8 := by simpa using hc21
         have k9 : ¬ x.k = 9 := by simpa using hc23
         rw [← hσ, do0 ⟨k1, k2, k3, k4, k5, k6, k7, k8, k9⟩]
         exact ⟨[], tg, H.drop (List.nil_sublist _), by simp, by simp, h.sh H⟩)
  refine WP.seq ?_
  refine WP.region ?_
  refine OPS.val rfl rfl rfl (Ev.eql rfl rfl) ?_
  refine OPS.val rfl rfl rfl (Ev.asB rfl) ?_
  refine OPS.nil ?_
  refine WP.cond rfl (fun hc5 => ?_) (fun hc5 => ?_)
  · refine WP.region ?_
    refine OPS.val rfl rfl rfl (Ev.mvP rfl) ?_
    refine OPS.val rfl rfl rfl (Ev.fieldAddr (fld_run rfl) rfl) ?_
    refine OPS.val rfl rfl rfl (Ev.load1 (agg_run rfl) rfl (by first | exact H.ldL 0 rfl _ rfl | exact H.ldL 1 rfl _ rfl | exact H.ldL 2 rfl _ rfl | exact H.ldL 3 rfl _ rfl | exact H.ldL 4 rfl _ rfl | exact H.ldL 5 rfl _ rfl | exact H.ldL 6 rfl _ rfl | exact H.ldL 7 rfl _ rfl | exact H.ld0 (by assumption) | assumption | exact H.ldS (by assumption) (by assumption))) ?_
    refine OPS.val rfl rfl rfl (Ev.fieldAddr (fld_run rfl) rfl) ?_
    refine OPS.val rfl rfl rfl (Ev.load1 (agg_run rfl) rfl (by first | exact H.ldL 0 rfl _ rfl | exact H.ldL 1 rfl _ rfl | exact H.ldL 2 rfl _ rfl | exact H.ldL 3 rfl _ rfl | exact H.ldL 4 rfl _ rfl | exact H.ldL 5 rfl _ rfl | exact H.ldL 6 rfl _ rfl | exact H.ldL 7 rfl _ rfl | exact H.ld0 (by assumption) | assumption | exact H.ldS (by assumption) (by assumption))) ?_
    refine OPS.val rfl rfl rfl (Ev.build (bld_42_0_1 rfl rfl)) ?_
    refine OPS.call (d := some 28) rfl rfl rfl (EvC.func (fun_run rfl)) (leaveS l σ tg j hjl ⟨2, x.p, 0, false, 0⟩ (by simp) w (h.sh H)) ?_
    rintro _ w ⟨rfl, Hc, hR⟩
    refine ⟨_, rfl, ?_⟩
    have HD : Done w0 w l σ tg σ' := by rw [← hσ, do2 (by simpa using hc5), hbt]; exact Done.of H Hc hgP hgT hR
    refine OPS.nil ?_
    refine ⟨_, rfl, ?_⟩
    refine ⟨rfl, ?_⟩
    first
      | exact HD
      | (have k1 : ¬ x.k = 1 := by simpa using hc3
         have k2 : ¬ x.k = 2 := by simpa using hc5
         have k3 : ¬ x.k = 3 := by simpa using hc7
         have k4 : ¬ x.k = 4 := by simpa using hc11
         have k5 : ¬ x.k = 5 := by simpa using hc16
         have k6 : ¬ x.k = 6 := by first | simpa using hc17 | (exfalso; simp_all)
         have k7 : ¬ x.k = 7 := by simpa using hc19
         have k8 : ¬ x.k = 8 := by simpa using hc21
         have k9 : ¬ x.k = 9 := by simpa using hc23
         rw [← hσ, do0 ⟨k1, k2, k3, k4, k5, k6, k7, k8, k9⟩]
         exact ⟨[], tg, H.drop (List.nil_sublist _), by simp, by simp, h.sh H⟩)
  refine WP.seq ?_
  refine WP.region ?_
  refine OPS.val rfl rfl rfl (Ev.eql rfl rfl) ?_
  refine OPS.val rfl rfl rfl (Ev.asB rfl) ?_
  refine OPS.nil ?_
  refine WP.cond rfl (fun hc7 => ?_) (fun hc7 => ?_)
  · have hk3 : x.k = 3 := by simpa using hc7
    have hp3 : prk σ.sp[j] = true := by
      have hc' := hc
      rw [chk3 hk3, hspt] at hc'
      by_cases hp : prk σ.sp[j] = false
      · rw [if_pos hp] at hc'; cases hc'
      · simpa using hp
    have hnu : x.i ∉ σ.us := fun hi => by
      have hc' := hc
      rw [chk3 hk3] at hc'
      by_cases hp : prk (spt σ x) = false
      · rw [if_pos hp] at hc'; cases hc'
      · rw [if_neg hp, if_pos hi] at hc'; cases hc'
    refine WP.seq ?_
    have hB := h.sh H
    have HB0 := H
    have f4 := HB0.fresh g4 (by simp)
    have f3 := HB0.fresh g3 (by simp)
    have n43 : g4 ≠ g3 := by have := HB0.nodup; simpa using this
    replace H : SH w [l.gP, g4, g3, l.gO, l.gU] w [⟨l.gP, 42, σ.sp.flatMap spC⟩, ⟨g4, 42, [I 3, I 0, I x.i, .bool false]⟩, ⟨g3, 56, [I x.d, I x.s, I x.a, I x.l, I x.k, I j, I x.p, I x.r, I x.i]⟩] :=
      (SH.ofs (w := w) (L := [⟨l.gP, 42, σ.sp.flatMap spC⟩, ⟨g4, 42, [I 3, I 0, I x.i, .bool false]⟩, ⟨g3, 56, [I x.d, I x.s, I x.a, I x.l, I x.k, I j, I x.p, I x.r, I x.i]⟩])
        (by
          intro b hb
          rcases List.mem_cons.1 hb with rfl | hb
          · exact hB.sp
          · exact HB0.own b hb)
        (by simp only [List.map_cons, List.map_nil, List.nodup_cons, List.mem_cons, List.not_mem_nil, or_false, not_or, not_false_eq_true, List.nodup_nil, and_true]; omega)).weak (by intro g hg; simp only [List.map_cons, List.map_nil, List.mem_cons, List.not_mem_nil, or_false] at hg ⊢; omega)
    have nn : l.gS ∉ [l.gP, g4, g3, l.gO, l.gU] := by simp only [List.mem_cons, List.not_mem_nil, or_false, not_or]; omega
    have cO' := hB.cell (k := 6) rfl
    have cU' := hB.cell (k := 7) rfl
    have cP' := hB.cell (k := 5) rfl
    have hM1 := hM.sh HB0 (by simp)
    have hMu1 := hMu.sh HB0 (by simp)
    refine WP.rheldC [31, 32, 33, 34, 35, 36, 37, 38, 39, 40, 41, 42] (fun u w' => ∃ g42, MapAt Try.prog 3 w' l.gO (m ++ [(I x.i, .pointer (some ⟨g42, 0, none⟩))]) ∧ MapAt Try.prog 3 w' l.gU mu ∧ SH w [l.gP, g4, g3, l.gO, l.gU] w' [⟨g42, 104, [I x.r, I j, .bool false]⟩, ⟨l.gP, 42, σ.sp.flatMap spC⟩, ⟨g4, 42, [I 3, I 0, I x.i, .bool false]⟩, ⟨g3, 56, [I x.d, I x.s, I x.a, I x.l, I x.k, I j, I x.p, I x.r, I x.i]⟩]) mixed H ?_ ?_
    · clear H; intro w hbw8 H
      refine OPH.take 0 rfl rfl rfl rfl (by kernel_rfl) (by kernel_rfl) (by kernel_rfl) rfl (by first | exact H | exact H.drop (List.sublist_cons_self _ _) | exact H.drop ((List.sublist_cons_self _ _).trans (List.sublist_cons_self _ _)) | exact H.drop ((List.sublist_cons_self _ _).trans ((List.sublist_cons_self _ _).trans (List.sublist_cons_self _ _))) | exact H.drop ((List.sublist_cons_self _ _).trans ((List.sublist_cons_self _ _).trans ((List.sublist_cons_self _ _).trans (List.sublist_cons_self _ _)))) | exact H.drop ((List.sublist_cons_self _ _).trans ((List.sublist_cons_self _ _).trans ((List.sublist_cons_self _ _).trans ((List.sublist_cons_self _ _).trans (List.sublist_cons_self _ _)))))) (fun w H => Ev.mvP rfl) ?_
      refine OPH.take 1 rfl rfl rfl rfl (by kernel_rfl) (by kernel_rfl) (by kernel_rfl) rfl (by first | exact H | exact H.drop (List.sublist_cons_self _ _) | exact H.drop ((List.sublist_cons_self _ _).trans (List.sublist_cons_self _ _)) | exact H.drop ((List.sublist_cons_self _ _).trans ((List.sublist_cons_self _ _).trans (List.sublist_cons_self _ _))) | exact H.drop ((List.sublist_cons_self _ _).trans ((List.sublist_cons_self _ _).trans ((List.sublist_cons_self _ _).trans (List.sublist_cons_self _ _)))) | exact H.drop ((List.sublist_cons_self _ _).trans ((List.sublist_cons_self _ _).trans ((List.sublist_cons_self _ _).trans ((List.sublist_cons_self _ _).trans (List.sublist_cons_self _ _)))))) (fun w H => (by first | exact Ev.nilCheckP rfl | exact Ev.nilCheckF rfl)) ?_
      refine OPH.take 2 rfl rfl rfl rfl (by kernel_rfl) (by kernel_rfl) (by kernel_rfl) rfl (by first | exact H | exact H.drop (List.sublist_cons_self _ _) | exact H.drop ((List.sublist_cons_self _ _).trans (List.sublist_cons_self _ _)) | exact H.drop ((List.sublist_cons_self _ _).trans ((List.sublist_cons_self _ _).trans (List.sublist_cons_self _ _))) | exact H.drop ((List.sublist_cons_self _ _).trans ((List.sublist_cons_self _ _).trans ((List.sublist_cons_self _ _).trans (List.sublist_cons_self _ _)))) | exact H.drop ((List.sublist_cons_self _ _).trans ((List.sublist_cons_self _ _).trans ((List.sublist_cons_self _ _).trans ((List.sublist_cons_self _ _).trans (List.sublist_cons_self _ _)))))) (fun w H => Ev.fieldAddr (fld_run rfl) rfl) ?_
      refine OPH.take 3 rfl rfl rfl rfl (by kernel_rfl) (by kernel_rfl) (by kernel_rfl) rfl (by first | exact H | exact H.drop (List.sublist_cons_self _ _) | exact H.drop ((List.sublist_cons_self _ _).trans (List.sublist_cons_self _ _)) | exact H.drop ((List.sublist_cons_self _ _).trans ((List.sublist_cons_self _ _).trans (List.sublist_cons_self _ _))) | exact H.drop ((List.sublist_cons_self _ _).trans ((List.sublist_cons_self _ _).trans ((List.sublist_cons_self _ _).trans (List.sublist_cons_self _ _)))) | exact H.drop ((List.sublist_cons_self _ _).trans ((List.sublist_cons_self _ _).trans ((List.sublist_cons_self _ _).trans ((List.sublist_cons_self _ _).trans (List.sublist_cons_self _ _)))))) (fun w H => Ev.load1 (agg_run rfl) rfl (H.ldS cO' nn)) ?_
      refine OPH.take 4 rfl rfl rfl rfl (by kernel_rfl) (by kernel_rfl) (by kernel_rfl) rfl (by first | exact H | exact H.drop (List.sublist_cons_self _ _) | exact H.drop ((List.sublist_cons_self _ _).trans (List.sublist_cons_self _ _)) | exact H.drop ((List.sublist_cons_self _ _).trans ((List.sublist_cons_self _ _).trans (List.sublist_cons_self _ _))) | exact H.drop ((List.sublist_cons_self _ _).trans ((List.sublist_cons_self _ _).trans ((List.sublist_cons_self _ _).trans (List.sublist_cons_self _ _)))) | exact H.drop ((List.sublist_cons_self _ _).trans ((List.sublist_cons_self _ _).trans ((List.sublist_cons_self _ _).trans ((List.sublist_cons_self _ _).trans (List.sublist_cons_self _ _)))))) (fun w H => Ev.fieldAddr (fld_run rfl) rfl) ?_
      refine OPH.take 5 rfl rfl rfl rfl (by kernel_rfl) (by kernel_rfl) (by kernel_rfl) rfl (by first | exact H | exact H.drop (List.sublist_cons_self _ _) | exact H.drop ((List.sublist_cons_self _ _).trans (List.sublist_cons_self _ _)) | exact H.drop ((List.sublist_cons_self _ _).trans ((List.sublist_cons_self _ _).trans (List.sublist_cons_self _ _))) | exact H.drop ((List.sublist_cons_self _ _).trans ((List.sublist_cons_self _ _).trans ((List.sublist_cons_self _ _).trans (List.sublist_cons_self _ _)))) | exact H.drop ((List.sublist_cons_self _ _).trans ((List.sublist_cons_self _ _).trans ((List.sublist_cons_self _ _).trans ((List.sublist_cons_self _ _).trans (List.sublist_cons_self _ _)))))) (fun w H => Ev.load1 (agg_run rfl) rfl (by first | exact H.ldL 0 rfl _ rfl | exact H.ldL 1 rfl _ rfl | exact H.ldL 2 rfl _ rfl | exact H.ldL 3 rfl _ rfl | exact H.ldL 4 rfl _ rfl | exact H.ldL 5 rfl _ rfl | exact H.ldL 6 rfl _ rfl | exact H.ldL 7 rfl _ rfl | exact H.ld0 (by assumption) | assumption | exact H.ldS (by assumption) (by assumption))) ?_
      refine OPH.take 6 rfl rfl rfl rfl (by kernel_rfl) (by kernel_rfl) (by kernel_rfl) rfl (by first | exact H | exact H.drop (List.sublist_cons_self _ _) | exact H.drop ((List.sublist_cons_self _ _).trans (List.sublist_cons_self _ _)) | exact H.drop ((List.sublist_cons_self _ _).trans ((List.sublist_cons_self _ _).trans (List.sublist_cons_self _ _))) | exact H.drop ((List.sublist_cons_self _ _).trans ((List.sublist_cons_self _ _).trans ((List.sublist_cons_self _ _).trans (List.sublist_cons_self _ _)))) | exact H.drop ((List.sublist_cons_self _ _).trans ((List.sublist_cons_self _ _).trans ((List.sublist_cons_self _ _).trans ((List.sublist_cons_self _ _).trans (List.sublist_cons_self _ _)))))) (fun w H => Ev.fieldAddr (fld_run rfl) rfl) ?_
      refine OPH.take 7 rfl rfl rfl rfl (by kernel_rfl) (by kernel_rfl) (by kernel_rfl) rfl (by first | exact H | exact H.drop (List.sublist_cons_self _ _) | exact H.drop ((List.sublist_cons_self _ _).trans (List.sublist_cons_self _ _)) | exact H.drop ((List.sublist_cons_self _ _).trans ((List.sublist_cons_self _ _).trans (List.sublist_cons_self _ _))) | exact H.drop ((List.sublist_cons_self _ _).trans ((List.sublist_cons_self _ _).trans ((List.sublist_cons_self _ _).trans (List.sublist_cons_self _ _)))) | exact H.drop ((List.sublist_cons_self _ _).trans ((List.sublist_cons_self _ _).trans ((List.sublist_cons_self _ _).trans ((List.sublist_cons_self _ _).trans (List.sublist_cons_self _ _)))))) (fun w H => Ev.load1 (agg_run rfl) rfl (by first | exact H.ldL 0 rfl _ rfl | exact H.ldL 1 rfl _ rfl | exact H.ldL 2 rfl _ rfl | exact H.ldL 3 rfl _ rfl | exact H.ldL 4 rfl _ rfl | exact H.ldL 5 rfl _ rfl | exact H.ldL 6 rfl _ rfl | exact H.ldL 7 rfl _ rfl | exact H.ld0 (by assumption) | assumption | exact H.ldS (by assumption) (by assumption))) ?_
      refine OPH.take 8 rfl rfl rfl rfl (by kernel_rfl) (by kernel_rfl) (by kernel_rfl) rfl (by first | exact H | exact H.drop (List.sublist_cons_self _ _) | exact H.drop ((List.sublist_cons_self _ _).trans (List.sublist_cons_self _ _)) | exact H.drop ((List.sublist_cons_self _ _).trans ((List.sublist_cons_self _ _).trans (List.sublist_cons_self _ _))) | exact H.drop ((List.sublist_cons_self _ _).trans ((List.sublist_cons_self _ _).trans ((List.sublist_cons_self _ _).trans (List.sublist_cons_self _ _)))) | exact H.drop ((List.sublist_cons_self _ _).trans ((List.sublist_cons_self _ _).trans ((List.sublist_cons_self _ _).trans ((List.sublist_cons_self _ _).trans (List.sublist_cons_self _ _)))))) (fun w H => Ev.fieldAddr (fld_run rfl) rfl) ?_
      refine OPH.take 9 rfl rfl rfl rfl (by kernel_rfl) (by kernel_rfl) (by kernel_rfl) rfl (by first | exact H | exact H.drop (List.sublist_cons_self _ _) | exact H.drop ((List.sublist_cons_self _ _).trans (List.sublist_cons_self _ _)) | exact H.drop ((List.sublist_cons_self _ _).trans ((List.sublist_cons_self _ _).trans (List.sublist_cons_self _ _))) | exact H.drop ((List.sublist_cons_self _ _).trans ((List.sublist_cons_self _ _).trans ((List.sublist_cons_self _ _).trans (List.sublist_cons_self _ _)))) | exact H.drop ((List.sublist_cons_self _ _).trans ((List.sublist_cons_self _ _).trans ((List.sublist_cons_self _ _).trans ((List.sublist_cons_self _ _).trans (List.sublist_cons_self _ _)))))) (fun w H => Ev.load1 (agg_run rfl) rfl (by first | exact H.ldL 0 rfl _ rfl | exact H.ldL 1 rfl _ rfl | exact H.ldL 2 rfl _ rfl | exact H.ldL 3 rfl _ rfl | exact H.ldL 4 rfl _ rfl | exact H.ldL 5 rfl _ rfl | exact H.ldL 6 rfl _ rfl | exact H.ldL 7 rfl _ rfl | exact H.ld0 (by assumption) | assumption | exact H.ldS (by assumption) (by assumption))) ?_
      refine OPH.take 10 rfl rfl rfl rfl (by kernel_rfl) (by kernel_rfl) (by kernel_rfl) rfl (by first | exact H | exact H.drop (List.sublist_cons_self _ _) | exact H.drop ((List.sublist_cons_self _ _).trans (List.sublist_cons_self _ _)) | exact H.drop ((List.sublist_cons_self _ _).trans ((List.sublist_cons_self _ _).trans (List.sublist_cons_self _ _))) | exact H.drop ((List.sublist_cons_self _ _).trans ((List.sublist_cons_self _ _).trans ((List.sublist_cons_self _ _).trans (List.sublist_cons_self _ _)))) | exact H.drop ((List.sublist_cons_self _ _).trans ((List.sublist_cons_self _ _).trans ((List.sublist_cons_self _ _).trans ((List.sublist_cons_self _ _).trans (List.sublist_cons_self _ _)))))) (fun w H => Ev.build (bld_104_0_1 rfl rfl)) ?_
      refine OPH.all [11] (by kernel_rfl) (by simp) rfl ?_
      intro i hi; simp only [List.mem_cons, List.not_mem_nil, or_false] at hi
      rcases hi with rfl
      · refine ⟨_, rfl, ?_⟩
        refine OPS.boxB rfl rfl rfl rfl (cA rfl) H ?_
        clear H; intro g42 w hb8 E
        have M8 := (hM1.below hbw8).below hb8
        have U8 := (hMu1.below hbw8).below hb8
        have H := E.drop (List.sublist_cons_self _ _)
        refine OPS.nil ?_
        refine ⟨(by first | exact H | exact H.drop (List.sublist_cons_self _ _) | exact H.drop ((List.sublist_cons_self _ _).trans (List.sublist_cons_self _ _)) | exact H.drop ((List.sublist_cons_self _ _).trans ((List.sublist_cons_self _ _).trans (List.sublist_cons_self _ _))) | exact H.drop ((List.sublist_cons_self _ _).trans ((List.sublist_cons_self _ _).trans ((List.sublist_cons_self _ _).trans (List.sublist_cons_self _ _)))) | exact H.drop ((List.sublist_cons_self _ _).trans ((List.sublist_cons_self _ _).trans ((List.sublist_cons_self _ _).trans ((List.sublist_cons_self _ _).trans (List.sublist_cons_self _ _)))))), ?_⟩
        refine OPH.all [12] (by kernel_rfl) (by simp) rfl ?_
        intro i hi; simp only [List.mem_cons, List.not_mem_nil, or_false] at hi
        rcases hi with rfl
        · refine ⟨_, rfl, ?_⟩
          refine OPS.putMap rfl rfl rfl M8 (int_keyed Try.underlying3) Try.underlying67 hkl rfl rfl rfl E (.inl (by simp)) ?_
          clear H E; intro w m' E hM' hoth hm1 hm2
          have hno : ∀ p ∈ m, p.1 ≠ I x.i := by
            intro p hp he
            obtain ⟨b, hb, hwb, rfl⟩ := (hm p).1 hp
            have hri : σ.sp[b].ri = x.i := by simpa using he
            exact hnu (hri ▸ hus _ (List.getElem_mem hb) hwb)
          have hm2 := hm2 hno ▸ hM'
          have U9 := U8.keep (hoth _ nOU.symm)
          have H := E.drop (List.sublist_cons_self _ _)
          refine OPS.nil ?_
          refine ⟨(by first | exact H | exact H.drop (List.sublist_cons_self _ _) | exact H.drop ((List.sublist_cons_self _ _).trans (List.sublist_cons_self _ _)) | exact H.drop ((List.sublist_cons_self _ _).trans ((List.sublist_cons_self _ _).trans (List.sublist_cons_self _ _))) | exact H.drop ((List.sublist_cons_self _ _).trans ((List.sublist_cons_self _ _).trans ((List.sublist_cons_self _ _).trans (List.sublist_cons_self _ _)))) | exact H.drop ((List.sublist_cons_self _ _).trans ((List.sublist_cons_self _ _).trans ((List.sublist_cons_self _ _).trans ((List.sublist_cons_self _ _).trans (List.sublist_cons_self _ _)))))), ?_⟩
          refine OPH.done (by kernel_rfl) ?_
          exact ⟨(by repeat (first | exact Agree.refl _ _ | exact Agree.mix _ _ _ | refine Agree.upd rfl ?_ | refine Agree.mix2 rfl ?_)), g42, hm2, U9, E⟩
    clear H
    rintro u w ⟨g42, hM2, hMu2, H⟩
    refine WP.seq ?_
    refine WP.rtail 6 mixed (by kernel_rfl) H ?_
    clear H; intro w hbw9 H
    refine OPS.val rfl rfl rfl (Ev.mvP rfl) ?_
    refine OPS.val rfl rfl rfl ((by first | exact Ev.nilCheckP rfl | exact Ev.nilCheckF rfl)) ?_
    refine OPS.val rfl rfl rfl (Ev.fieldAddr (fld_run rfl) rfl) ?_
    refine OPS.val rfl rfl rfl (Ev.load1 (agg_run rfl) rfl (H.ldS cU' nn)) ?_
    refine OPS.val rfl rfl rfl (Ev.fieldAddr (fld_run rfl) rfl) ?_
    refine OPS.val rfl rfl rfl (Ev.load1 (agg_run rfl) rfl (by first | exact H.ldL 0 rfl _ rfl | exact H.ldL 1 rfl _ rfl | exact H.ldL 2 rfl _ rfl | exact H.ldL 3 rfl _ rfl | exact H.ldL 4 rfl _ rfl | exact H.ldL 5 rfl _ rfl | exact H.ldL 6 rfl _ rfl | exact H.ldL 7 rfl _ rfl | exact H.ld0 (by assumption) | assumption | exact H.ldS (by assumption) (by assumption))) ?_
    refine OPS.nil_s ?_
    refine OPS.putMap (val := .bool true) rfl rfl rfl (hMu2.below hbw9) (int_keyed Try.underlying3) Try.underlying68 hkl rfl rfl rfl H (.inl (by simp)) ?_
    clear H; intro w mu' H hMu3 hoth9 hmu1 _
    have hM3 := (hM2.below hbw9).keep (hoth9 _ nOU)
    refine OPS.nil ?_
    have HB2 := H
    have cP2 := HB2.ldS cP' nn
    have m42 := HB2.may ⟨g42, 104, [I x.r, I j, .bool false]⟩ (by simp)
    have sB := HB0.size
    have n5 : l.gS ∉ [g42, l.gP, g4, g3] := by
      simp only [List.mem_cons, List.not_mem_nil, or_false, not_or] at nn m42 ⊢
      omega
    have nO5 : l.gO ∉ [g42, l.gP, g4, g3] := hM3.notMem HB2
    have nU5 : l.gU ∉ [g42, l.gP, g4, g3] := hMu3.notMem HB2
    have hfit : 0 + j * 4 + (spC ⟨3, 0, x.i, false, x.r⟩).length ≤ (σ.sp.flatMap spC).length := by
      rw [rows_length (sz := 4) (fun _ => rfl), spC_len]; omega
    replace H : SH w [g42, l.gP, g4, g3] w [⟨g42, 104, [I x.r, I j, .bool false]⟩, ⟨l.gP, 42, σ.sp.flatMap spC⟩, ⟨g4, 42, [I 3, I 0, I x.i, .bool false]⟩, ⟨g3, 56, [I x.d, I x.s, I x.a, I x.l, I x.k, I j, I x.p, I x.r, I x.i]⟩] := HB2.restart (List.Sublist.refl _)
    refine WP.rtail 8 mixed (by kernel_rfl) H ?_
    clear H; intro w hbw10 H
    refine OPS.val rfl rfl rfl (Ev.mvP rfl) ?_
    refine OPS.val rfl rfl rfl ((by first | exact Ev.nilCheckP rfl | exact Ev.nilCheckF rfl)) ?_
    refine OPS.val rfl rfl rfl (Ev.fieldAddr (fld_run rfl) rfl) ?_
    refine OPS.val rfl rfl rfl (Ev.load1 (agg_run rfl) rfl (H.ldS cP2 n5)) ?_
    refine OPS.val rfl rfl rfl (Ev.fieldAddr (fld_run rfl) rfl) ?_
    refine OPS.val rfl rfl rfl (Ev.load1 (agg_run rfl) rfl (by first | exact H.ldL 0 rfl _ rfl | exact H.ldL 1 rfl _ rfl | exact H.ldL 2 rfl _ rfl | exact H.ldL 3 rfl _ rfl | exact H.ldL 4 rfl _ rfl | exact H.ldL 5 rfl _ rfl | exact H.ldL 6 rfl _ rfl | exact H.ldL 7 rfl _ rfl | exact H.ld0 (by assumption) | assumption | exact H.ldS (by assumption) (by assumption))) ?_
    refine OPS.val rfl rfl rfl (Ev.loadO 2 H rfl (agg_run rfl) (size_run rfl) rfl rfl) ?_
    refine OPS.val rfl rfl rfl ((by first | exact Ev.indexAddr1 (el_run rfl) (size_run rfl) rfl rfl rfl (by omega) | exact Ev.indexAddr (el_run rfl) (size_run rfl) rfl rfl rfl (by omega))) ?_
    refine OPS.nil_s ?_
    refine OPS.store 1 (0 + j * 4) rfl rfl rfl (size_run rfl) rfl (cA rfl) rfl rfl H rfl hfit ?_
    clear H; intro w H
    refine OPS.nil ?_
    have H : SH _ [g42, l.gP, g4, g3] w [⟨g42, 104, [I x.r, I j, .bool false]⟩, ⟨l.gP, 42, putL (σ.sp.flatMap spC) (0 + j * 4) (spC ⟨3, 0, x.i, false, x.r⟩)⟩, ⟨g4, 42, [I 3, I 0, I x.i, .bool false]⟩, ⟨g3, 56, [I x.d, I x.s, I x.a, I x.l, I x.k, I j, I x.p, I x.r, I x.i]⟩] := H
    rw [Nat.zero_add, putL_rows (enc := spC) (sz := 4) (fun _ => rfl) _ _ _ hjl] at H
    have HF := SH.cont HB2 H
    have HD : Done w0 w l σ tg σ' := by
      rw [← hσ, do3 hk3, hbt]
      have hge : ∀ g ∈ [l.gP, g4, g3, l.gO, l.gU], l.g0 ≤ g := by
        intro g hg
        simp only [List.mem_cons, List.not_mem_nil, or_false] at hg
        have := h.fr
        omega
      have hTT : ∀ b, ∀ h : b < σ.sp.length, σ.sp[b].wh = 3 → tg b ∉ [l.gP, g4, g3, l.gO, l.gU] := by
        intro b hb hwb
        have h1 := h.nT hb hwb
        have h2 : tg b < w0.heap.size := (Array.getElem?_eq_some_iff.1 (h.tr b hb hwb)).1
        simp only [List.mem_cons, List.not_mem_nil, or_false, not_or]
        omega
      have hgT2 : ∀ g ∈ [l.gP, g4, g3, l.gO, l.gU], w0.heap.size ≤ g ∨ StB l σ tg g := by
        intro g hg
        simp only [List.mem_cons, List.not_mem_nil, or_false] at hg
        unfold StB
        rcases hg with rfl | rfl | rfl | rfl | rfl
        · exact .inr (.inl rfl)
        · exact .inl f4
        · exact .inl f3
        · exact .inr (.inr (.inl rfl))
        · exact .inr (.inr (.inr (.inl rfl)))
      refine Done.of HB0 (HF.drop (List.nil_sublist _)) (tg' := fun b => if b = j then g42 else tg b) ?_ hgT2 (hB.started hjl (s := ⟨3, 0, x.i, false, x.r⟩) rfl hp3 HF hge nn (by have hfr := h.fr; simp only [List.mem_cons, List.not_mem_nil, or_false] at m42; omega) hTT (hM3.sh H nO5) hm (hMu3.sh H nU5) (fun p => ?_))
      · exact hge
      · rw [hmu1]
        constructor
        · rintro (rfl | ⟨hp, _⟩)
          · exact ⟨x.i, List.mem_cons_self .., rfl⟩
          · obtain ⟨i, hi, rfl⟩ := (hmu p).1 hp
            exact ⟨i, List.mem_cons_of_mem _ hi, rfl⟩
        · rintro ⟨i, hi, rfl⟩
          by_cases he : i = x.i
          · exact .inl (by rw [he])
          · rcases List.mem_cons.1 hi with rfl | hi
            · exact absurd rfl he
            · exact .inr ⟨(hmu _).2 ⟨i, hi, rfl⟩, fun h => he (by simpa using h)⟩
    refine ⟨_, rfl, ?_⟩
    refine ⟨rfl, ?_⟩
    first
      | exact HD
      | (have k1 : ¬ x.k = 1 := by simpa using hc3
         have k2 : ¬ x.k = 2 := by simpa using hc5
         have k3 : ¬ x.k = 3 := by simpa using hc7
         have k4 : ¬ x.k = 4 := by simpa using hc11
         have k5 : ¬ x.k = 5 := by simpa using hc16
         have k6 : ¬ x.k = 6 := by first | simpa using hc17 | (exfalso; simp_all)
         have k7 : ¬ x.k = 7 := by simpa using hc19
         have k8 : ¬ x.k = 8 := by simpa using hc21
         have k9 : ¬ x.k = 9 := by simpa using hc23
         rw [← hσ, do0 ⟨k1, k2, k3, k4, k5, k6, k7, k8, k9⟩]
         exact ⟨[], tg, H.drop (List.nil_sublist _), by simp, by simp, h.sh H⟩)
  refine WP.seq ?_
  refine WP.region ?_
  refine OPS.val rfl rfl rfl (Ev.eql rfl rfl) ?_
  refine OPS.val rfl rfl rfl (Ev.asB rfl) ?_
  refine OPS.nil ?_
  refine WP.cond rfl (fun hc11 => ?_) (fun hc11 => ?_)
  · have hk4 : x.k = 4 := by simpa using hc11
    obtain ⟨t, ho, hp4, hpa⟩ : ∃ t, opn x.i σ.sp = some t ∧ prk σ.sp[j] = true ∧ t.pa = false := by
      have hc' := hc
      cases ho : opn x.i σ.sp with
      | none => rw [chk4n hk4 ho] at hc'; cases hc'
      | some t =>
        rw [chk4s hk4 ho, hspt] at hc'
        by_cases hp : prk σ.sp[j] = false
        · rw [if_pos hp] at hc'; cases hc'
        · rw [if_neg hp] at hc'
          by_cases hq : t.pa = true
          · rw [if_pos hq] at hc'; cases hc'
          · exact ⟨t, rfl, by simpa using hp, by simpa using hq⟩
    obtain ⟨c, hcl, hoI, rfl, hwc, hric⟩ := h.openI ho
    have htc := h.nT hcl hwc
    have ltc : tg c < w0.heap.size := (Array.getElem?_eq_some_iff.1 (h.tr c hcl hwc)).1
    refine WP.seq ?_
    refine WP.rstill mixed (by kernel_rfl) H ?_
    clear H; intro w hbw12 H
    refine OPS.val rfl rfl rfl (Ev.mvP rfl) ?_
    refine OPS.val rfl rfl rfl ((by first | exact Ev.nilCheckP rfl | exact Ev.nilCheckF rfl)) ?_
    refine OPS.val rfl rfl rfl (Ev.fieldAddr (fld_run rfl) rfl) ?_
    refine OPS.val rfl rfl rfl (Ev.load1 (agg_run rfl) rfl (H.ld0 cO)) ?_
    refine OPS.val rfl rfl rfl (Ev.fieldAddr (fld_run rfl) rfl) ?_
    refine OPS.val rfl rfl rfl (Ev.load1 (agg_run rfl) rfl (by first | exact H.ldL 0 rfl _ rfl | exact H.ldL 1 rfl _ rfl | exact H.ldL 2 rfl _ rfl | exact H.ldL 3 rfl _ rfl | exact H.ldL 4 rfl _ rfl | exact H.ldL 5 rfl _ rfl | exact H.ldL 6 rfl _ rfl | exact H.ldL 7 rfl _ rfl | exact H.ld0 (by assumption) | assumption | exact H.ldS (by assumption) (by assumption))) ?_
    refine OPS.val rfl rfl rfl (Ev.look1 (hM.sh H (by simp)) ((hm _).2 ⟨c, hcl, hwc, by rw [hric]⟩) (int_keyed Try.underlying3) Try.underlying67 (zero_run rfl) hkl rfl rfl) ?_
    refine OPS.val rfl rfl rfl (Ev.asP rfl) ?_
    refine OPS.nil_s ?_
    refine WP.seq ?_
    have hB := h.sh H
    have HB0 := H
    have f4 := HB0.fresh g4 (by simp)
    have f3 := HB0.fresh g3 (by simp)
    have n43 : g4 ≠ g3 := by have := HB0.nodup; simpa using this
    replace H : SH w [l.gP, tg c, g4, g3] w [⟨l.gP, 42, σ.sp.flatMap spC⟩, ⟨tg c, 104, [I σ.sp[c].who, I c, .bool σ.sp[c].pa]⟩, ⟨g4, 42, [I 3, I 0, I x.i, .bool false]⟩, ⟨g3, 56, [I x.d, I x.s, I x.a, I x.l, I x.k, I j, I x.p, I x.r, I x.i]⟩] :=
      SH.ofs (w := w) (L := [⟨l.gP, 42, σ.sp.flatMap spC⟩, ⟨tg c, 104, [I σ.sp[c].who, I c, .bool σ.sp[c].pa]⟩, ⟨g4, 42, [I 3, I 0, I x.i, .bool false]⟩, ⟨g3, 56, [I x.d, I x.s, I x.a, I x.l, I x.k, I j, I x.p, I x.r, I x.i]⟩])
        (by
          intro b hb
          rcases List.mem_cons.1 hb with rfl | hb
          · exact hB.sp
          · rcases List.mem_cons.1 hb with rfl | hb
            · exact hB.tr c hcl hwc
            · exact HB0.own b hb)
        (by simp only [List.map_cons, List.map_nil, List.nodup_cons, List.mem_cons, List.not_mem_nil, or_false, not_or, not_false_eq_true, List.nodup_nil, and_true]; omega)
    have nn : l.gS ∉ [l.gP, tg c, g4, g3] := by simp only [List.mem_cons, List.not_mem_nil, or_false, not_or]; omega
    have nO : l.gO ∉ [l.gP, tg c, g4, g3] := by simp only [List.mem_cons, List.not_mem_nil, or_false, not_or]; omega
    have nU : l.gU ∉ [l.gP, tg c, g4, g3] := by simp only [List.mem_cons, List.not_mem_nil, or_false, not_or]; omega
    have cP' := hB.cell (k := 5) rfl
    have hf1 : 0 + c * 4 + (spC σ.sp[j]).length ≤ (σ.sp.flatMap spC).length := by
      rw [rows_length (sz := 4) (fun _ => rfl), spC_len]; omega
    have hf2 : 0 + j * 4 + (spC ⟨3, 0, x.i, false, σ.sp[c].who⟩).length ≤ ((σ.sp.set c σ.sp[j]).flatMap spC).length := by
      rw [rows_length (sz := 4) (fun _ => rfl), spC_len, List.length_set]; omega
    refine WP.rtail 17 mixed (by kernel_rfl) H ?_
    clear H; intro w hbw13 H
    refine OPS.val rfl rfl rfl (Ev.mvP rfl) ?_
    refine OPS.val rfl rfl rfl ((by first | exact Ev.nilCheckP rfl | exact Ev.nilCheckF rfl)) ?_
    refine OPS.val rfl rfl rfl (Ev.fieldAddr (fld_run rfl) rfl) ?_
    refine OPS.val rfl rfl rfl (Ev.load1 (agg_run rfl) rfl (H.ldS cP' nn)) ?_
    refine OPS.val rfl rfl rfl (Ev.mvP rfl) ?_
    refine OPS.val rfl rfl rfl ((by first | exact Ev.nilCheckP rfl | exact Ev.nilCheckF rfl)) ?_
    refine OPS.val rfl rfl rfl (Ev.fieldAddr (fld_run rfl) rfl) ?_
    refine OPS.val rfl rfl rfl (Ev.load1 (agg_run rfl) rfl (H.ldL 1 rfl _ rfl)) ?_
    refine OPS.val rfl rfl rfl (Ev.mvP rfl) ?_
    refine OPS.val rfl rfl rfl ((by first | exact Ev.nilCheckP rfl | exact Ev.nilCheckF rfl)) ?_
    refine OPS.val rfl rfl rfl (Ev.fieldAddr (fld_run rfl) rfl) ?_
    refine OPS.val rfl rfl rfl (Ev.load1 (agg_run rfl) rfl (H.ldS cP' nn)) ?_
    refine OPS.val rfl rfl rfl (Ev.fieldAddr (fld_run rfl) rfl) ?_
    refine OPS.val rfl rfl rfl (Ev.load1 (agg_run rfl) rfl (H.ldL 3 rfl _ rfl)) ?_
    refine OPS.val rfl rfl rfl ((by first | exact Ev.indexAddr1 (el_run rfl) (size_run rfl) rfl rfl rfl (by omega) | exact Ev.indexAddr (el_run rfl) (size_run rfl) rfl rfl rfl (by omega))) ?_
    refine OPS.val rfl rfl rfl (Ev.loadN (spC σ.sp[j]) (agg_run rfl) (size_run rfl) rfl (rowIn H 0 rfl hjl)) ?_
    refine OPS.val rfl rfl rfl ((by first | exact Ev.indexAddr1 (el_run rfl) (size_run rfl) rfl rfl rfl (by omega) | exact Ev.indexAddr (el_run rfl) (size_run rfl) rfl rfl rfl (by omega))) ?_
    refine OPS.nil_s ?_
    refine OPS.store 0 (0 + c * 4) rfl rfl rfl (size_run rfl) rfl (cA rfl) rfl rfl H rfl hf1 ?_
    clear H; intro w H
    have H : SH _ [l.gP, tg c, g4, g3] w [⟨l.gP, 42, putL (σ.sp.flatMap spC) (0 + c * 4) (spC σ.sp[j])⟩, ⟨tg c, 104, [I σ.sp[c].who, I c, .bool σ.sp[c].pa]⟩, ⟨g4, 42, [I 3, I 0, I x.i, .bool false]⟩, ⟨g3, 56, [I x.d, I x.s, I x.a, I x.l, I x.k, I j, I x.p, I x.r, I x.i]⟩] := H
    rw [Nat.zero_add, putL_rows (enc := spC) (sz := 4) (fun _ => rfl) _ _ _ hcl] at H
    refine OPS.nil ?_
    refine WP.seq ?_
    refine WP.rtail 8 mixed (by kernel_rfl) H ?_
    clear H; intro w hbw14 H
    refine OPS.val rfl rfl rfl (Ev.mvP rfl) ?_
    refine OPS.val rfl rfl rfl ((by first | exact Ev.nilCheckP rfl | exact Ev.nilCheckF rfl)) ?_
    refine OPS.val rfl rfl rfl (Ev.fieldAddr (fld_run rfl) rfl) ?_
    refine OPS.val rfl rfl rfl (Ev.load1 (agg_run rfl) rfl (H.ldS cP' nn)) ?_
    refine OPS.val rfl rfl rfl (Ev.fieldAddr (fld_run rfl) rfl) ?_
    refine OPS.val rfl rfl rfl (Ev.load1 (agg_run rfl) rfl (H.ldL 3 rfl _ rfl)) ?_
    refine OPS.val rfl rfl rfl (Ev.loadO 2 H rfl (agg_run rfl) (size_run rfl) rfl rfl) ?_
    refine OPS.val rfl rfl rfl ((by first | exact Ev.indexAddr1 (el_run rfl) (size_run rfl) rfl rfl rfl (by omega) | exact Ev.indexAddr (el_run rfl) (size_run rfl) rfl rfl rfl (by omega))) ?_
    refine OPS.nil_s ?_
    refine OPS.store 0 (0 + j * 4) rfl rfl rfl (size_run rfl) rfl (cA rfl) rfl rfl H rfl hf2 ?_
    clear H; intro w H
    have H : SH _ [l.gP, tg c, g4, g3] w [⟨l.gP, 42, putL ((σ.sp.set c σ.sp[j]).flatMap spC) (0 + j * 4) (spC ⟨3, 0, x.i, false, σ.sp[c].who⟩)⟩, ⟨tg c, 104, [I σ.sp[c].who, I c, .bool σ.sp[c].pa]⟩, ⟨g4, 42, [I 3, I 0, I x.i, .bool false]⟩, ⟨g3, 56, [I x.d, I x.s, I x.a, I x.l, I x.k, I j, I x.p, I x.r, I x.i]⟩] := H
    rw [Nat.zero_add, putL_rows (enc := spC) (sz := 4) (fun _ => rfl) _ _ _ (by rw [List.length_set]; exact hjl)] at H
    refine OPS.nil ?_
    refine WP.region ?_
    refine OPS.val rfl rfl rfl (Ev.mvP rfl) ?_
    refine OPS.val rfl rfl rfl (Ev.fieldAddr (fld_run rfl) rfl) ?_
    refine OPS.val rfl rfl rfl (Ev.load1 (agg_run rfl) rfl (H.ldL 3 rfl _ rfl)) ?_
    refine OPS.val rfl rfl rfl ((by first | exact Ev.nilCheckP rfl | exact Ev.nilCheckF rfl)) ?_
    refine OPS.val rfl rfl rfl (Ev.fieldAddr (fld_run rfl) rfl) ?_
    refine OPS.store 1 _ rfl rfl rfl (size_run rfl) rfl (cI rfl) rfl rfl H rfl (by simp) ?_
    clear H; intro w H
    refine OPS.nil ?_
    have H : SH _ [l.gP, tg c, g4, g3] w [⟨l.gP, 42, ((σ.sp.set c σ.sp[j]).set j ⟨3, 0, x.i, false, σ.sp[c].who⟩).flatMap spC⟩, ⟨tg c, 104, [I σ.sp[c].who, I j, .bool σ.sp[c].pa]⟩, ⟨g4, 42, [I 3, I 0, I x.i, .bool false]⟩, ⟨g3, 56, [I x.d, I x.s, I x.a, I x.l, I x.k, I j, I x.p, I x.r, I x.i]⟩] := H
    have HD : Done w0 w l σ tg σ' := by
      rw [← hσ, do4 hk4 hoI, hbt, hgd, show σ.sp.getD c default = σ.sp[c] by rw [List.getD_eq_getElem?_getD, List.getElem?_eq_getElem hcl]; rfl]
      have hge : ∀ g ∈ [l.gP, tg c, g4, g3], l.g0 ≤ g := by
        intro g hg
        simp only [List.mem_cons, List.not_mem_nil, or_false] at hg
        have h1 := h.fr
        have h2 := h.fr.2.2.2.2 c hcl hwc
        omega
      rw [hpa] at H
      have hgT2 : ∀ g ∈ [l.gP, tg c, g4, g3], w0.heap.size ≤ g ∨ StB l σ tg g := by
        intro g hg
        simp only [List.mem_cons, List.not_mem_nil, or_false] at hg
        unfold StB
        rcases hg with rfl | rfl | rfl | rfl
        · exact .inr (.inl rfl)
        · exact .inr (.inr (.inr (.inr ⟨c, hcl, hwc, rfl⟩)))
        · exact .inl f4
        · exact .inl f3
      refine Done.of HB0 (H.drop (List.nil_sublist _)) hge hgT2 (hB.swapped hjl hcl hwc hp4 (s := ⟨3, 0, x.i, false, σ.sp[c].who⟩) rfl hric.symm H hge nn nO nU (fun b hb hwb => ?_))
      have h2 : tg b < w0.heap.size := (Array.getElem?_eq_some_iff.1 (h.tr b hb hwb)).1
      omega
    refine ⟨_, rfl, ?_⟩
    refine ⟨rfl, ?_⟩
    first
      | exact HD
      | (have k1 : ¬ x.k = 1 := by simpa using hc3
         have k2 : ¬ x.k = 2 := by simpa using hc5
         have k3 : ¬ x.k = 3 := by simpa using hc7
         have k4 : ¬ x.k = 4 := by simpa using hc11
         have k5 : ¬ x.k = 5 := by simpa using hc16
         have k6 : ¬ x.k = 6 := by first | simpa using hc17 | (exfalso; simp_all)
         have k7 : ¬ x.k = 7 := by simpa using hc19
         have k8 : ¬ x.k = 8 := by simpa using hc21
         have k9 : ¬ x.k = 9 := by simpa using hc23
         rw [← hσ, do0 ⟨k1, k2, k3, k4, k5, k6, k7, k8, k9⟩]
         exact ⟨[], tg, H.drop (List.nil_sublist _), by simp, by simp, h.sh H⟩)
  refine WP.seq ?_
  refine WP.seq ?_
  refine WP.region ?_
  refine OPS.val rfl rfl rfl (Ev.eql rfl rfl) ?_
  refine OPS.val rfl rfl rfl (Ev.asB rfl) ?_
  refine OPS.nil ?_
  refine WP.cond rfl (fun hc16 => ?_) (fun hc16 => ?_)
  · refine WP.skip ?_
    refine WP.cond rfl (fun hc16 => ?_) (fun hc16 => ?_)
    · have hk5 : x.k = 5 ∨ x.k = 6 := by first | exact .inl (by simpa using hc16) | exact .inr (by simpa using hc17)
      have hw5 : σ.sp[j].wh = 3 := by
        have hc' := hc
        have he : chkS l.f σ x = (if (spt σ x).wh ≠ 3 then 23 else if (spt σ x).pa = decide (x.k = 5) then 12 else 0) := by
          rcases hk5 with h5 | h5
          · exact chk5 h5
          · exact chk6 h5
        rw [he, hspt] at hc'
        by_cases hw : σ.sp[j].wh = 3
        · exact hw
        · rw [if_pos hw] at hc'; cases hc'
      refine WP.region ?_
      refine OPS.val rfl rfl rfl (Ev.mvP rfl) ?_
      refine OPS.val rfl rfl rfl (Ev.fieldAddr (fld_run rfl) rfl) ?_
      refine OPS.val rfl rfl rfl (Ev.load1 (agg_run rfl) rfl (by first | exact H.ldL 0 rfl _ rfl | exact H.ldL 1 rfl _ rfl | exact H.ldL 2 rfl _ rfl | exact H.ldL 3 rfl _ rfl | exact H.ldL 4 rfl _ rfl | exact H.ldL 5 rfl _ rfl | exact H.ldL 6 rfl _ rfl | exact H.ldL 7 rfl _ rfl | exact H.ld0 (by assumption) | assumption | exact H.ldS (by assumption) (by assumption))) ?_
      refine OPS.val rfl rfl rfl (Ev.fieldAddr (fld_run rfl) rfl) ?_
      refine OPS.val rfl rfl rfl (Ev.load1 (agg_run rfl) rfl (by first | exact H.ldL 0 rfl _ rfl | exact H.ldL 1 rfl _ rfl | exact H.ldL 2 rfl _ rfl | exact H.ldL 3 rfl _ rfl | exact H.ldL 4 rfl _ rfl | exact H.ldL 5 rfl _ rfl | exact H.ldL 6 rfl _ rfl | exact H.ldL 7 rfl _ rfl | exact H.ld0 (by assumption) | assumption | exact H.ldS (by assumption) (by assumption))) ?_
      refine OPS.val rfl rfl rfl (Ev.eql rfl rfl) ?_
      refine OPS.call (d := some 105) rfl rfl rfl (EvC.func (fun_run rfl)) (pauseS l σ tg j hjl hw5 (decide (x.k = 5)) w (h.sh H)) ?_
      rintro _ w ⟨rfl, Hc, hR⟩
      refine ⟨_, rfl, ?_⟩
      have HD : Done w0 w l σ tg σ' := by
        rw [← hσ, do56 hk5, hbt, hgd]
        refine Done.of H Hc ?_ (fun g hg => ?_) hR
        rotate_left
        · simp only [List.mem_cons, List.not_mem_nil, or_false] at hg
          unfold StB
          rcases hg with rfl | rfl
          · exact .inr (.inl rfl)
          · exact .inr (.inr (.inr (.inr ⟨j, hjl, hw5, rfl⟩)))
        have h1 := h.fr
        have h2 := h.fr.2.2.2.2 j hjl hw5
        intro g hg
        simp only [List.mem_cons, List.not_mem_nil, or_false] at hg
        omega
      refine OPS.nil ?_
      refine ⟨_, rfl, ?_⟩
      refine ⟨rfl, ?_⟩
      first
        | exact HD
        | (have k1 : ¬ x.k = 1 := by simpa using hc3
           have k2 : ¬ x.k = 2 := by simpa using hc5
           have k3 : ¬ x.k = 3 := by simpa using hc7
           have k4 : ¬ x.k = 4 := by simpa using hc11
           have k5 : ¬ x.k = 5 := by simpa using hc16
           have k6 : ¬ x.k = 6 := by first | simpa using hc17 | (exfalso; simp_all)
           have k7 : ¬ x.k = 7 := by simpa using hc19
           have k8 : ¬ x.k = 8 := by simpa using hc21
           have k9 : ¬ x.k = 9 := by simpa using hc23
           rw [← hσ, do0 ⟨k1, k2, k3, k4, k5, k6, k7, k8, k9⟩]
           exact ⟨[], tg, H.drop (List.nil_sublist _), by simp, by simp, h.sh H⟩)
    refine WP.seq ?_
    refine WP.region ?_
    refine OPS.val rfl rfl rfl (Ev.eql rfl rfl) ?_
    refine OPS.val rfl rfl rfl (Ev.asB rfl) ?_
    refine OPS.nil ?_
    refine WP.cond rfl (fun hc19 => ?_) (fun hc19 => ?_)
    · refine WP.region ?_
      refine OPS.val rfl rfl rfl (Ev.mvP rfl) ?_
      refine OPS.val rfl rfl rfl (Ev.fieldAddr (fld_run rfl) rfl) ?_
      refine OPS.val rfl rfl rfl (Ev.load1 (agg_run rfl) rfl (by first | exact H.ldL 0 rfl _ rfl | exact H.ldL 1 rfl _ rfl | exact H.ldL 2 rfl _ rfl | exact H.ldL 3 rfl _ rfl | exact H.ldL 4 rfl _ rfl | exact H.ldL 5 rfl _ rfl | exact H.ldL 6 rfl _ rfl | exact H.ldL 7 rfl _ rfl | exact H.ld0 (by assumption) | assumption | exact H.ldS (by assumption) (by assumption))) ?_
      refine OPS.val rfl rfl rfl (Ev.fieldAddr (fld_run rfl) rfl) ?_
      refine OPS.val rfl rfl rfl (Ev.load1 (agg_run rfl) rfl (by first | exact H.ldL 0 rfl _ rfl | exact H.ldL 1 rfl _ rfl | exact H.ldL 2 rfl _ rfl | exact H.ldL 3 rfl _ rfl | exact H.ldL 4 rfl _ rfl | exact H.ldL 5 rfl _ rfl | exact H.ldL 6 rfl _ rfl | exact H.ldL 7 rfl _ rfl | exact H.ld0 (by assumption) | assumption | exact H.ldS (by assumption) (by assumption))) ?_
      refine OPS.val rfl rfl rfl (Ev.build (bld_42_0_1 rfl rfl)) ?_
      refine OPS.call (d := some 114) rfl rfl rfl (EvC.func (fun_run rfl)) (leaveS l σ tg j hjl ⟨4, x.p, 0, false, 0⟩ (by simp) w (h.sh H)) ?_
      rintro _ w ⟨rfl, Hc, hR⟩
      refine ⟨_, rfl, ?_⟩
      have HD : Done w0 w l σ tg σ' := by rw [← hσ, do7 (by simpa using hc19), hbt]; exact Done.of H Hc hgP hgT hR
      refine OPS.nil ?_
      refine ⟨_, rfl, ?_⟩
      refine ⟨rfl, ?_⟩
      first
        | exact HD
        | (have k1 : ¬ x.k = 1 := by simpa using hc3
           have k2 : ¬ x.k = 2 := by simpa using hc5
           have k3 : ¬ x.k = 3 := by simpa using hc7
           have k4 : ¬ x.k = 4 := by simpa using hc11
           have k5 : ¬ x.k = 5 := by simpa using hc16
           have k6 : ¬ x.k = 6 := by first | simpa using hc17 | (exfalso; simp_all)
           have k7 : ¬ x.k = 7 := by simpa using hc19
           have k8 : ¬ x.k = 8 := by simpa using hc21
           have k9 : ¬ x.k = 9 := by simpa using hc23
           rw [← hσ, do0 ⟨k1, k2, k3, k4, k5, k6, k7, k8, k9⟩]
           exact ⟨[], tg, H.drop (List.nil_sublist _), by simp, by simp, h.sh H⟩)
    refine WP.seq ?_
    refine WP.region ?_
    refine OPS.val rfl rfl rfl (Ev.eql rfl rfl) ?_
    refine OPS.val rfl rfl rfl (Ev.asB rfl) ?_
    refine OPS.nil ?_
    refine WP.cond rfl (fun hc21 => ?_) (fun hc21 => ?_)
    · refine WP.region ?_
      refine OPS.val rfl rfl rfl (Ev.mvP rfl) ?_
      refine OPS.val rfl rfl rfl (Ev.fieldAddr (fld_run rfl) rfl) ?_
      refine OPS.val rfl rfl rfl (Ev.load1 (agg_run rfl) rfl (by first | exact H.ldL 0 rfl _ rfl | exact H.ldL 1 rfl _ rfl | exact H.ldL 2 rfl _ rfl | exact H.ldL 3 rfl _ rfl | exact H.ldL 4 rfl _ rfl | exact H.ldL 5 rfl _ rfl | exact H.ldL 6 rfl _ rfl | exact H.ldL 7 rfl _ rfl | exact H.ld0 (by assumption) | assumption | exact H.ldS (by assumption) (by assumption))) ?_
      refine OPS.val rfl rfl rfl (Ev.build (bld_42_0 rfl)) ?_
      refine OPS.call (d := some 121) rfl rfl rfl (EvC.func (fun_run rfl)) (leaveS l σ tg j hjl ⟨5, 0, 0, false, 0⟩ (by simp) w (h.sh H)) ?_
      rintro _ w ⟨rfl, Hc, hR⟩
      refine ⟨_, rfl, ?_⟩
      have HD : Done w0 w l σ tg σ' := by rw [← hσ, do8 (by simpa using hc21), hbt]; exact Done.of H Hc hgP hgT hR
      refine OPS.nil ?_
      refine ⟨_, rfl, ?_⟩
      refine ⟨rfl, ?_⟩
      first
        | exact HD
        | (have k1 : ¬ x.k = 1 := by simpa using hc3
           have k2 : ¬ x.k = 2 := by simpa using hc5
           have k3 : ¬ x.k = 3 := by simpa using hc7
           have k4 : ¬ x.k = 4 := by simpa using hc11
           have k5 : ¬ x.k = 5 := by simpa using hc16
           have k6 : ¬ x.k = 6 := by first | simpa using hc17 | (exfalso; simp_all)
           have k7 : ¬ x.k = 7 := by simpa using hc19
           have k8 : ¬ x.k = 8 := by simpa using hc21
           have k9 : ¬ x.k = 9 := by simpa using hc23
           rw [← hσ, do0 ⟨k1, k2, k3, k4, k5, k6, k7, k8, k9⟩]
           exact ⟨[], tg, H.drop (List.nil_sublist _), by simp, by simp, h.sh H⟩)
    refine WP.seq ?_
    refine WP.region ?_
    refine OPS.val rfl rfl rfl (Ev.eql rfl rfl) ?_
    refine OPS.val rfl rfl rfl (Ev.asB rfl) ?_
    refine OPS.nil ?_
    refine WP.cond rfl (fun hc23 => ?_) (fun hc23 => ?_)
    · refine WP.region ?_
      refine OPS.val rfl rfl rfl (Ev.mvP rfl) ?_
      refine OPS.val rfl rfl rfl (Ev.fieldAddr (fld_run rfl) rfl) ?_
      refine OPS.val rfl rfl rfl (Ev.load1 (agg_run rfl) rfl (by first | exact H.ldL 0 rfl _ rfl | exact H.ldL 1 rfl _ rfl | exact H.ldL 2 rfl _ rfl | exact H.ldL 3 rfl _ rfl | exact H.ldL 4 rfl _ rfl | exact H.ldL 5 rfl _ rfl | exact H.ldL 6 rfl _ rfl | exact H.ldL 7 rfl _ rfl | exact H.ld0 (by assumption) | assumption | exact H.ldS (by assumption) (by assumption))) ?_
      refine OPS.val rfl rfl rfl (Ev.build (bld_42_0 rfl)) ?_
      refine OPS.call (d := some 128) rfl rfl rfl (EvC.func (fun_run rfl)) (leaveS l σ tg j hjl ⟨6, 0, 0, false, 0⟩ (by simp) w (h.sh H)) ?_
      rintro _ w ⟨rfl, Hc, hR⟩
      refine ⟨_, rfl, ?_⟩
      have HD : Done w0 w l σ tg σ' := by rw [← hσ, do9 (by simpa using hc23), hbt]; exact Done.of H Hc hgP hgT hR
      refine OPS.nil ?_
      refine ⟨_, rfl, ?_⟩
      refine ⟨rfl, ?_⟩
      first
        | exact HD
        | (have k1 : ¬ x.k = 1 := by simpa using hc3
           have k2 : ¬ x.k = 2 := by simpa using hc5
           have k3 : ¬ x.k = 3 := by simpa using hc7
           have k4 : ¬ x.k = 4 := by simpa using hc11
           have k5 : ¬ x.k = 5 := by simpa using hc16
           have k6 : ¬ x.k = 6 := by first | simpa using hc17 | (exfalso; simp_all)
           have k7 : ¬ x.k = 7 := by simpa using hc19
           have k8 : ¬ x.k = 8 := by simpa using hc21
           have k9 : ¬ x.k = 9 := by simpa using hc23
           rw [← hσ, do0 ⟨k1, k2, k3, k4, k5, k6, k7, k8, k9⟩]
           exact ⟨[], tg, H.drop (List.nil_sublist _), by simp, by simp, h.sh H⟩)
    refine WP.skip ?_
    refine ⟨_, rfl, ?_⟩
    refine ⟨rfl, ?_⟩
    first
      | exact HD
      | (have k1 : ¬ x.k = 1 := by simpa using hc3
         have k2 : ¬ x.k = 2 := by simpa using hc5
         have k3 : ¬ x.k = 3 := by simpa using hc7
         have k4 : ¬ x.k = 4 := by simpa using hc11
         have k5 : ¬ x.k = 5 := by simpa using hc16
         have k6 : ¬ x.k = 6 := by first | simpa using hc17 | (exfalso; simp_all)
         have k7 : ¬ x.k = 7 := by simpa using hc19
         have k8 : ¬ x.k = 8 := by simpa using hc21
         have k9 : ¬ x.k = 9 := by simpa using hc23
         rw [← hσ, do0 ⟨k1, k2, k3, k4, k5, k6, k7, k8, k9⟩]
         exact ⟨[], tg, H.drop (List.nil_sublist _), by simp, by simp, h.sh H⟩)
  refine WP.region ?_
  refine OPS.val rfl rfl rfl (Ev.eql rfl rfl) ?_
  refine OPS.val rfl rfl rfl (Ev.asB rfl) ?_
  refine OPS.nil ?_
  refine WP.cond rfl (fun hc17 => ?_) (fun hc17 => ?_)
  · have hk5 : x.k = 5 ∨ x.k = 6 := by first | exact .inl (by simpa using hc16) | exact .inr (by simpa using hc17)
    have hw5 : σ.sp[j].wh = 3 := by
      have hc' := hc
      have he : chkS l.f σ x = (if (spt σ x).wh ≠ 3 then 23 else if (spt σ x).pa = decide (x.k = 5) then 12 else 0) := by
        rcases hk5 with h5 | h5
        · exact chk5 h5
        · exact chk6 h5
      rw [he, hspt] at hc'
      by_cases hw : σ.sp[j].wh = 3
      · exact hw
      · rw [if_pos hw] at hc'; cases hc'
    refine WP.region ?_
    refine OPS.val rfl rfl rfl (Ev.mvP rfl) ?_
    refine OPS.val rfl rfl rfl (Ev.fieldAddr (fld_run rfl) rfl) ?_
    refine OPS.val rfl rfl rfl (Ev.load1 (agg_run rfl) rfl (by first | exact H.ldL 0 rfl _ rfl | exact H.ldL 1 rfl _ rfl | exact H.ldL 2 rfl _ rfl | exact H.ldL 3 rfl _ rfl | exact H.ldL 4 rfl _ rfl | exact H.ldL 5 rfl _ rfl | exact H.ldL 6 rfl _ rfl | exact H.ldL 7 rfl _ rfl | exact H.ld0 (by assumption) | assumption | exact H.ldS (by assumption) (by assumption))) ?_
    refine OPS.val rfl rfl rfl (Ev.fieldAddr (fld_run rfl) rfl) ?_
    refine OPS.val rfl rfl rfl (Ev.load1 (agg_run rfl) rfl (by first | exact H.ldL 0 rfl _ rfl | exact H.ldL 1 rfl _ rfl | exact H.ldL 2 rfl _ rfl | exact H.ldL 3 rfl _ rfl | exact H.ldL 4 rfl _ rfl | exact H.ldL 5 rfl _ rfl | exact H.ldL 6 rfl _ rfl | exact H.ldL 7 rfl _ rfl | exact H.ld0 (by assumption) | assumption | exact H.ldS (by assumption) (by assumption))) ?_
    refine OPS.val rfl rfl rfl (Ev.eql rfl rfl) ?_
    refine OPS.call (d := some 105) rfl rfl rfl (EvC.func (fun_run rfl)) (pauseS l σ tg j hjl hw5 (decide (x.k = 5)) w (h.sh H)) ?_
    rintro _ w ⟨rfl, Hc, hR⟩
    refine ⟨_, rfl, ?_⟩
    have HD : Done w0 w l σ tg σ' := by
      rw [← hσ, do56 hk5, hbt, hgd]
      refine Done.of H Hc ?_ (fun g hg => ?_) hR
      rotate_left
      · simp only [List.mem_cons, List.not_mem_nil, or_false] at hg
        unfold StB
        rcases hg with rfl | rfl
        · exact .inr (.inl rfl)
        · exact .inr (.inr (.inr (.inr ⟨j, hjl, hw5, rfl⟩)))
      have h1 := h.fr
      have h2 := h.fr.2.2.2.2 j hjl hw5
      intro g hg
      simp only [List.mem_cons, List.not_mem_nil, or_false] at hg
      omega
    refine OPS.nil ?_
    refine ⟨_, rfl, ?_⟩
    refine ⟨rfl, ?_⟩
    first
      | exact HD
      | (have k1 : ¬ x.k = 1 := by simpa using hc3
         have k2 : ¬ x.k = 2 := by simpa using hc5
         have k3 : ¬ x.k = 3 := by simpa using hc7
         have k4 : ¬ x.k = 4 := by simpa using hc11
         have k5 : ¬ x.k = 5 := by simpa using hc16
         have k6 : ¬ x.k = 6 := by first | simpa using hc17 | (exfalso; simp_all)
         have k7 : ¬ x.k = 7 := by simpa using hc19
         have k8 : ¬ x.k = 8 := by simpa using hc21
         have k9 : ¬ x.k = 9 := by simpa using hc23
         rw [← hσ, do0 ⟨k1, k2, k3, k4, k5, k6, k7, k8, k9⟩]
         exact ⟨[], tg, H.drop (List.nil_sublist _), by simp, by simp, h.sh H⟩)
  refine WP.seq ?_
  refine WP.region ?_
  refine OPS.val rfl rfl rfl (Ev.eql rfl rfl) ?_
  refine OPS.val rfl rfl rfl (Ev.asB rfl) ?_
  refine OPS.nil ?_
  refine WP.cond rfl (fun hc19 => ?_) (fun hc19 => ?_)
  · refine WP.region ?_
    refine OPS.val rfl rfl rfl (Ev.mvP rfl) ?_
    refine OPS.val rfl rfl rfl (Ev.fieldAddr (fld_run rfl) rfl) ?_
    refine OPS.val rfl rfl rfl (Ev.load1 (agg_run rfl) rfl (by first | exact H.ldL 0 rfl _ rfl | exact H.ldL 1 rfl _ rfl | exact H.ldL 2 rfl _ rfl | exact H.ldL 3 rfl _ rfl | exact H.ldL 4 rfl _ rfl | exact H.ldL 5 rfl _ rfl | exact H.ldL 6 rfl _ rfl | exact H.ldL 7 rfl _ rfl | exact H.ld0 (by assumption) | assumption | exact H.ldS (by assumption) (by assumption))) ?_
    refine OPS.val rfl rfl rfl (Ev.fieldAddr (fld_run rfl) rfl) ?_
    refine OPS.val rfl rfl rfl (Ev.load1 (agg_run rfl) rfl (by first | exact H.ldL 0 rfl _ rfl | exact H.ldL 1 rfl _ rfl | exact H.ldL 2 rfl _ rfl | exact H.ldL 3 rfl _ rfl | exact H.ldL 4 rfl _ rfl | exact H.ldL 5 rfl _ rfl | exact H.ldL 6 rfl _ rfl | exact H.ldL 7 rfl _ rfl | exact H.ld0 (by assumption) | assumption | exact H.ldS (by assumption) (by assumption))) ?_
    refine OPS.val rfl rfl rfl (Ev.build (bld_42_0_1 rfl rfl)) ?_
    refine OPS.call (d := some 114) rfl rfl rfl (EvC.func (fun_run rfl)) (leaveS l σ tg j hjl ⟨4, x.p, 0, false, 0⟩ (by simp) w (h.sh H)) ?_
    rintro _ w ⟨rfl, Hc, hR⟩
    refine ⟨_, rfl, ?_⟩
    have HD : Done w0 w l σ tg σ' := by rw [← hσ, do7 (by simpa using hc19), hbt]; exact Done.of H Hc hgP hgT hR
    refine OPS.nil ?_
    refine ⟨_, rfl, ?_⟩
    refine ⟨rfl, ?_⟩
    first
      | exact HD
      | (have k1 : ¬ x.k = 1 := by simpa using hc3
         have k2 : ¬ x.k = 2 := by simpa using hc5
         have k3 : ¬ x.k = 3 := by simpa using hc7
         have k4 : ¬ x.k = 4 := by simpa using hc11
         have k5 : ¬ x.k = 5 := by simpa using hc16
         have k6 : ¬ x.k = 6 := by first | simpa using hc17 | (exfalso; simp_all)
         have k7 : ¬ x.k = 7 := by simpa using hc19
         have k8 : ¬ x.k = 8 := by simpa using hc21
         have k9 : ¬ x.k = 9 := by simpa using hc23
         rw [← hσ, do0 ⟨k1, k2, k3, k4, k5, k6, k7, k8, k9⟩]
         exact ⟨[], tg, H.drop (List.nil_sublist _), by simp, by simp, h.sh H⟩)
  refine WP.seq ?_
  refine WP.region ?_
  refine OPS.val rfl rfl rfl (Ev.eql rfl rfl) ?_
  refine OPS.val rfl rfl rfl (Ev.asB rfl) ?_
  refine OPS.nil ?_
  refine WP.cond rfl (fun hc21 => ?_) (fun hc21 => ?_)
  · refine WP.region ?_
    refine OPS.val rfl rfl rfl (Ev.mvP rfl) ?_
    refine OPS.val rfl rfl rfl (Ev.fieldAddr (fld_run rfl) rfl) ?_
    refine OPS.val rfl rfl rfl (Ev.load1 (agg_run rfl) rfl (by first | exact H.ldL 0 rfl _ rfl | exact H.ldL 1 rfl _ rfl | exact H.ldL 2 rfl _ rfl | exact H.ldL 3 rfl _ rfl | exact H.ldL 4 rfl _ rfl | exact H.ldL 5 rfl _ rfl | exact H.ldL 6 rfl _ rfl | exact H.ldL 7 rfl _ rfl | exact H.ld0 (by assumption) | assumption | exact H.ldS (by assumption) (by assumption))) ?_
    refine OPS.val rfl rfl rfl (Ev.build (bld_42_0 rfl)) ?_
    refine OPS.call (d := some 121) rfl rfl rfl (EvC.func (fun_run rfl)) (leaveS l σ tg j hjl ⟨5, 0, 0, false, 0⟩ (by simp) w (h.sh H)) ?_
    rintro _ w ⟨rfl, Hc, hR⟩
    refine ⟨_, rfl, ?_⟩
    have HD : Done w0 w l σ tg σ' := by rw [← hσ, do8 (by simpa using hc21), hbt]; exact Done.of H Hc hgP hgT hR
    refine OPS.nil ?_
    refine ⟨_, rfl, ?_⟩
    refine ⟨rfl, ?_⟩
    first
      | exact HD
      | (have k1 : ¬ x.k = 1 := by simpa using hc3
         have k2 : ¬ x.k = 2 := by simpa using hc5
         have k3 : ¬ x.k = 3 := by simpa using hc7
         have k4 : ¬ x.k = 4 := by simpa using hc11
         have k5 : ¬ x.k = 5 := by simpa using hc16
         have k6 : ¬ x.k = 6 := by first | simpa using hc17 | (exfalso; simp_all)
         have k7 : ¬ x.k = 7 := by simpa using hc19
         have k8 : ¬ x.k = 8 := by simpa using hc21
         have k9 : ¬ x.k = 9 := by simpa using hc23
         rw [← hσ, do0 ⟨k1, k2, k3, k4, k5, k6, k7, k8, k9⟩]
         exact ⟨[], tg, H.drop (List.nil_sublist _), by simp, by simp, h.sh H⟩)
  refine WP.seq ?_
  refine WP.region ?_
  refine OPS.val rfl rfl rfl (Ev.eql rfl rfl) ?_
  refine OPS.val rfl rfl rfl (Ev.asB rfl) ?_
  refine OPS.nil ?_
  refine WP.cond rfl (fun hc23 => ?_) (fun hc23 => ?_)
  · refine WP.region ?_
    refine OPS.val rfl rfl rfl (Ev.mvP rfl) ?_
    refine OPS.val rfl rfl rfl (Ev.fieldAddr (fld_run rfl) rfl) ?_
    refine OPS.val rfl rfl rfl (Ev.load1 (agg_run rfl) rfl (by first | exact H.ldL 0 rfl _ rfl | exact H.ldL 1 rfl _ rfl | exact H.ldL 2 rfl _ rfl | exact H.ldL 3 rfl _ rfl | exact H.ldL 4 rfl _ rfl | exact H.ldL 5 rfl _ rfl | exact H.ldL 6 rfl _ rfl | exact H.ldL 7 rfl _ rfl | exact H.ld0 (by assumption) | assumption | exact H.ldS (by assumption) (by assumption))) ?_
    refine OPS.val rfl rfl rfl (Ev.build (bld_42_0 rfl)) ?_
    refine OPS.call (d := some 128) rfl rfl rfl (EvC.func (fun_run rfl)) (leaveS l σ tg j hjl ⟨6, 0, 0, false, 0⟩ (by simp) w (h.sh H)) ?_
    rintro _ w ⟨rfl, Hc, hR⟩
    refine ⟨_, rfl, ?_⟩
    have HD : Done w0 w l σ tg σ' := by rw [← hσ, do9 (by simpa using hc23), hbt]; exact Done.of H Hc hgP hgT hR
    refine OPS.nil ?_
    refine ⟨_, rfl, ?_⟩
    refine ⟨rfl, ?_⟩
    first
      | exact HD
      | (have k1 : ¬ x.k = 1 := by simpa using hc3
         have k2 : ¬ x.k = 2 := by simpa using hc5
         have k3 : ¬ x.k = 3 := by simpa using hc7
         have k4 : ¬ x.k = 4 := by simpa using hc11
         have k5 : ¬ x.k = 5 := by simpa using hc16
         have k6 : ¬ x.k = 6 := by first | simpa using hc17 | (exfalso; simp_all)
         have k7 : ¬ x.k = 7 := by simpa using hc19
         have k8 : ¬ x.k = 8 := by simpa using hc21
         have k9 : ¬ x.k = 9 := by simpa using hc23
         rw [← hσ, do0 ⟨k1, k2, k3, k4, k5, k6, k7, k8, k9⟩]
         exact ⟨[], tg, H.drop (List.nil_sublist _), by simp, by simp, h.sh H⟩)
  refine WP.skip ?_
  refine ⟨_, rfl, ?_⟩
  refine ⟨rfl, ?_⟩
  first
    | exact HD
    | (have k1 : ¬ x.k = 1 := by simpa using hc3
       have k2 : ¬ x.k = 2 := by simpa using hc5
       have k3 : ¬ x.k = 3 := by simpa using hc7
       have k4 : ¬ x.k = 4 := by simpa using hc11
       have k5 : ¬ x.k = 5 := by simpa using hc16
       have k6 : ¬ x.k = 6 := by first | simpa using hc17 | (exfalso; simp_all)
       have k7 : ¬ x.k = 7 := by simpa using hc19
       have k8 : ¬ x.k = 8 := by simpa using hc21
       have k9 : ¬ x.k = 9 := by simpa using hc23
       rw [← hσ, do0 ⟨k1, k2, k3, k4, k5, k6, k7, k8, k9⟩]
       exact ⟨[], tg, H.drop (List.nil_sublist _), by simp, by simp, h.sh H⟩)
end Go.Proofs.Ytchjbjplddhknaa

/-
  Walks: SameStays at equal lists, New.
-/
set_option linter.all false
namespace Go.Proofs.Ytchjbjplddhknaa
open Go Go.W Go.RowKit

structure Sty where
  b : Int
  wh : Int
  pl : Int
  ri : Int
  fr : Int
  to : Int
def stC (s : Sty) : List Value := [I s.b, I s.wh, I s.pl, I s.ri, I s.fr, I s.to]
theorem eqG48 : Try.prog.eqGuardType Try.prog.depth 48 = false := by kernel_rfl
theorem winEq (d : Nat) (a b : Int) (w : World) : (Op.equalIn (d + 2) 46 (.agg #[I a, I b]) (.agg #[I a, I b])).run Try.prog w = .ok true w := by
  have hs : Try.prog.stoodInHeld 46 = false := by kernel_rfl
  rw [Op.equalIn]
  simp only [Sem.run_bind, Try.runUnderlying46, Result.andThen_ok, prog_run, hs]
  simp [part, Try.isAgg3, Sem.run_bind, Sem.run_pure, intEq]
theorem eqS48 (s : Sty) : ∀ w, (Op.equal 48 (.agg (stC s).toArray) (.agg (stC s).toArray)).run Try.prog w = .ok true w := by
  intro w
  have hs : Try.prog.stoodInHeld 48 = false := by kernel_rfl
  unfold Op.equal Op.maxDepth
  rw [Op.equalIn]
  simp only [Sem.run_bind, Try.runUnderlying48, Result.andThen_ok, prog_run, hs]
  simp [part, stC, Try.isAgg3, Try.isAgg46, Try.sizeOf46, Sem.run_bind, Sem.run_pure, intEq, winEq]
theorem sameStays (A B : Option Addr) (l : List Sty) (ca cb : Nat) (w0 : World) (hA : RowsAt 6 stC w0 A l) (hB : RowsAt 6 stC w0 B l) (hl : l.length ≤ 1000) :
    Calls Try.prog 10 #[.slice A l.length ca, .slice B l.length cb] w0 fun e w' => e = .returned (.bool true) ∧ Below w0.heap.size w0 w' := by
  have H := SH.refl w0
  refine Calls.ofWP Try.func10 rfl Try.results10 Try.ntmps10 rfl ?_
  refine WP.seq ?_
  refine WP.region ?_
  refine OPS.val rfl rfl rfl (Ev.asB rfl) ?_
  refine OPS.nil ?_
  refine WP.seq ?_
  refine WP.seq ?_
  refine WP.region ?_
  refine OPS.val rfl rfl rfl (Ev.mvS rfl) ?_
  refine OPS.val rfl rfl rfl (Ev.len (el_run rfl) rfl) ?_
  refine OPS.val rfl rfl rfl (Ev.mvS rfl) ?_
  refine OPS.val rfl rfl rfl (Ev.len (el_run rfl) rfl) ?_
  refine OPS.val rfl rfl rfl (Ev.neq rfl rfl) ?_
  refine OPS.nil ?_
  refine WP.cond rfl (fun hc1 => ?_) (fun hc1 => ?_)
  · refine WP.seq ?_
    refine WP.region ?_
    refine OPS.val rfl rfl rfl (Ev.asB rfl) ?_
    refine OPS.nil ?_
    refine WP.ret ⟨_, rfl, ?_⟩
    simp at hc1
  refine WP.skip ?_
  refine WP.seq ?_
  refine WP.seq ?_
  refine WP.region ?_
  refine OPS.val rfl rfl rfl (Ev.asI rfl) ?_
  refine OPS.nil ?_
  refine WP.block ?_
  refine WP.loop [4, 5, 11, 12, 13, 14, 15, 16, 17, 18, 19, 20, 21, 22, 23, 24, 25] (fun k e w' => ∃ (j : Nat), j + k = l.length ∧ e 5 = I j ∧ SH w0 [] w' []) (l.length) (⟨0, by omega, rfl, H⟩) ?_
  clear H
  rintro k u w ⟨j, hk, h5, H⟩
  refine WP.know (t := 5) h5 ?_
  refine WP.seq ?_
  refine WP.seq ?_
  refine WP.region ?_
  refine OPS.val rfl rfl rfl (Ev.mvI rfl) ?_
  refine OPS.val rfl rfl rfl (Ev.mvS rfl) ?_
  refine OPS.val rfl rfl rfl (Ev.len (el_run rfl) rfl) ?_
  refine OPS.val rfl rfl rfl (Ev.lss rfl rfl) ?_
  refine OPS.nil ?_
  refine WP.cond rfl (fun hc4 => ?_) (fun hc4 => ?_)
  · have hlt : j < l.length := by have h := of_decide_eq_true hc4; omega
    obtain ⟨b, o, rfl, hx⟩ := hA j hlt
    obtain ⟨b', o', rfl, hy⟩ := hB j hlt
    refine WP.skip ?_
    refine WP.seq ?_
    refine WP.block ?_
    refine WP.seq ?_
    refine WP.rstill mixed (by kernel_rfl) H ?_
    clear H; intro w hbw6 H
    refine OPS.val rfl rfl rfl (Ev.mvS rfl) ?_
    refine OPS.val rfl rfl rfl (Ev.mvI rfl) ?_
    refine OPS.val rfl rfl rfl ((by first | exact Ev.indexAddr1 (el_run rfl) (size_run rfl) rfl rfl rfl (by omega) | exact Ev.indexAddr (el_run rfl) (size_run rfl) rfl rfl rfl (by omega))) ?_
    refine OPS.val rfl rfl rfl (Ev.loadN (stC l[j]) (agg_run rfl) (size_run rfl) rfl (cellsAt_sh H hx)) ?_
    refine OPS.val rfl rfl rfl (Ev.mvS rfl) ?_
    refine OPS.val rfl rfl rfl (Ev.mvI rfl) ?_
    refine OPS.val rfl rfl rfl ((by first | exact Ev.indexAddr1 (el_run rfl) (size_run rfl) rfl rfl rfl (by omega) | exact Ev.indexAddr (el_run rfl) (size_run rfl) rfl rfl rfl (by omega))) ?_
    refine OPS.val rfl rfl rfl (Ev.loadN (stC l[j]) (agg_run rfl) (size_run rfl) rfl (cellsAt_sh H hy)) ?_
    refine OPS.val rfl rfl rfl (Ev.neqA eqG48 (eqS48 l[j]) rfl rfl) ?_
    refine OPS.nil_s ?_
    refine WP.cond rfl (fun hc6 => ?_) (fun hc6 => ?_)
    · refine WP.seq ?_
      refine WP.region ?_
      refine OPS.val rfl rfl rfl (Ev.asB rfl) ?_
      refine OPS.nil ?_
      refine WP.ret ⟨_, rfl, ?_⟩
      cases hc6
    refine WP.skip ?_
    refine WP.region ?_
    refine OPS.val rfl rfl rfl (Ev.mvI rfl) ?_
    refine OPS.val rfl rfl rfl (Ev.add rfl rfl (by unfold fits; omega)) ?_
    refine OPS.val rfl rfl rfl (Ev.asI rfl) ?_
    refine OPS.nil ?_
    exact ⟨(by repeat (first | exact Agree.refl _ _ | exact Agree.mix _ _ _ | refine Agree.upd rfl ?_ | refine Agree.mix2 rfl ?_)), k - 1, by omega, j + 1, by omega, rfl, H⟩
  refine WP.exit ?_
  refine XB.hit ?_
  refine WP.seq ?_
  refine WP.region ?_
  refine OPS.val rfl rfl rfl (Ev.asB rfl) ?_
  refine OPS.nil ?_
  refine WP.ret ⟨_, rfl, ?_⟩
  exact ⟨rfl, H.below⟩
theorem gossipNew (n : Int) (w0 : World) :
    Calls Try.prog 13 #[I n] w0 fun e w' => (n < 1 ∨ 256 < n) ∧ e = .returned (.tuple #[.pointer none, I 1]) ∧ Below w0.heap.size w0 w' ∨
      (1 ≤ n ∧ n ≤ 256) ∧ ∃ gR gM, e = .returned (.tuple #[.pointer (some ⟨gR, 0, none⟩), I 0]) ∧ w0.heap.size ≤ gM ∧ MapAt Try.prog 78 w' gM [] ∧ SH w0 [] w' [⟨gR, 61, [I n, .map (some gM)]⟩] := by
  have H := SH.refl w0
  refine Calls.ofWP Try.func13 rfl Try.results13 Try.ntmps13 rfl ?_
  refine WP.seq ?_
  refine WP.region ?_
  refine OPS.val rfl rfl rfl (Ev.asP rfl) ?_
  refine OPS.val rfl rfl rfl (Ev.asI rfl) ?_
  refine OPS.nil ?_
  refine WP.seq ?_
  refine WP.seq ?_
  refine WP.region ?_
  refine OPS.val rfl rfl rfl (Ev.mvI rfl) ?_
  refine OPS.val rfl rfl rfl (Ev.lss rfl rfl) ?_
  refine OPS.val rfl rfl rfl (Ev.mvB rfl) ?_
  refine OPS.gval rfl rfl rfl rfl rfl (fun hg => Ev.mvI (by first | rfl | exact gvE hg rfl)) ?_
  refine OPS.gval rfl rfl rfl rfl rfl (fun hg => Ev.gtr (by first | rfl | exact gvE hg rfl) (by first | rfl | exact gvE hg rfl)) ?_
  refine OPS.val rfl rfl rfl ((by first | exact Ev.pickOr rfl rfl rfl | exact Ev.pickAnd rfl rfl rfl)) ?_
  refine OPS.nil ?_
  refine WP.cond rfl (fun hc1 => ?_) (fun hc1 => ?_)
  · refine WP.seq ?_
    refine WP.region ?_
    refine OPS.val rfl rfl rfl (Ev.asP rfl) ?_
    refine OPS.val rfl rfl rfl (Ev.asI rfl) ?_
    refine OPS.nil ?_
    refine WP.ret ⟨_, rfl, ?_⟩
    have h : n < 1 ∨ 256 < n := by simpa using hc1
    exact .inl ⟨h, rfl, H.below⟩
  refine WP.skip ?_
  refine WP.seq ?_
  have h : 1 ≤ n ∧ n ≤ 256 := by simp at hc1; omega
  refine WP.region ?_
  refine OPS.val rfl rfl rfl (Ev.mvI rfl) ?_
  refine OPS.mkMap 78 rfl rfl rfl rfl H ?_
  clear H; intro w gM hgM hbM H M
  refine OPS.val rfl rfl rfl (Ev.build (bld_61_0_1 rfl rfl)) ?_
  refine OPS.boxB rfl rfl rfl rfl (cA rfl) H ?_
  clear H; intro g13 w hb13 H
  replace M := M.below hb13
  refine OPS.val rfl rfl rfl (Ev.asP rfl) ?_
  refine OPS.val rfl rfl rfl (Ev.asI rfl) ?_
  refine OPS.nil ?_
  refine WP.ret ⟨_, rfl, ?_⟩
  exact .inr ⟨h, g13, gM, rfl, hgM, M, H⟩
end Go.Proofs.Ytchjbjplddhknaa

/-
  The key of an event in a replica.
-/
set_option linter.all false
namespace Go.Proofs.Ytchjbjplddhknaa
open Go Go.W Go.RowKit
open Go.Maps (Keyed int_keyed keyOf_int_mk)

theorem laidP : laidOutB Try.prog = true := by kernel_rfl
theorem kyKey : Keyed Try.prog 78 := Keyed.of_law (deep_law_laid laidP (m := 2) (by omega) (of_decide_eq_true (by kernel_rfl)) (by kernel_rfl) (by kernel_rfl))
theorem keyK {a b : Int} (ha : fits a) (hb : fits b) : ∃ kl, keyOf Try.prog 78 (.agg #[I a, I b]) = some kl := by
  obtain ⟨d, hd⟩ : ∃ d, Try.prog.types.size = d + 1 := by
    have : 0 < Try.prog.types.size := of_decide_eq_true (by kernel_rfl)
    exact ⟨Try.prog.types.size - 1, by omega⟩
  have hk : Try.prog.keyType 78 = true := by kernel_rfl
  have hc : Try.prog.cellsOf 78 = 2 := by kernel_rfl
  have hc3 : Try.prog.cellsOf 3 = 1 := by kernel_rfl
  have hf : (Value.agg #[I a, I b]).formed Try.prog 78 = true := by simp [Value.formed, Try.underlying78, hc]
  have hi : ∀ n, fits n → Try.prog.keyLits (d + 1) 3 [I n] = some [.int .i64 n] := fun n hn => by
    unfold Program.keyLits; rw [Try.underlying3]
    simp [wfI hn]
  have hl : Try.prog.keyLits (d + 1 + 1) 78 [I a, I b] = some [.int .i64 a, .int .i64 b] := by
    unfold Program.keyLits; rw [Try.underlying78]
    simp [hc, hc3, List.range_succ, hi a ha, hi b hb]
  refine ⟨.string (keyBytes [.int .i64 a, .int .i64 b]), ?_⟩
  unfold keyOf
  rw [Try.underlying78]
  simp [hk, hf, hd, Value.cells, hl]
end Go.Proofs.Ytchjbjplddhknaa

/-
  Lists of events in order with numbers that differ; the walk of Set.
-/
set_option linter.all false
namespace Go.Proofs.Ytchjbjplddhknaa
open Go Go.W Go.RowKit

theorem evLe_trans (x y z : Evt) (h1 : evLe x y = true) (h2 : evLe y z = true) : evLe x z = true := by
  simp only [evLe, Bool.not_eq_true', decide_eq_false_iff_not] at *
  have hl : ∀ a b : Evt, (evK a).length = (evK b).length := fun a b => rfl
  exact cmpL_ntrans _ _ _ (hl _ _) (hl _ _) h2 h1
theorem evLe_total (x y : Evt) : (evLe x y || evLe y x) = true := by
  simp only [evLe, Bool.or_eq_true, Bool.not_eq_true', decide_eq_false_iff_not]
  by_cases h : cmpE y x < 0
  · exact .inr fun h2 => cmpL_asym (evK y) (evK x) rfl h h2
  · exact .inl h
theorem evLe_anti (x y : Evt) (h1 : evLe x y = true) (h2 : evLe y x = true) : x = y := by
  simp only [evLe, Bool.not_eq_true', decide_eq_false_iff_not] at *
  exact evK_inj x y (cmpL_tri _ _ rfl h2 h1)
/-- in order, and with numbers that differ -/
structure EvOk (es : List Evt) : Prop where
  srt : es.Pairwise fun x y => evLe x y = true
  num : es.Pairwise fun x y => sameNum x y = false
theorem sameNum_comm (x y : Evt) : sameNum x y = sameNum y x := by
  unfold sameNum
  rw [show (decide (x.d = y.d)) = decide (y.d = x.d) from by simp [eq_comm], show (decide (x.s = y.s)) = decide (y.s = x.s) from by simp [eq_comm]]
theorem sort_unique {l es : List Evt} (h : es.Pairwise fun x y => evLe x y = true) (hp : l.Perm es) : l.mergeSort evLe = es := by
  refine List.Perm.eq_of_pairwise (le := fun x y => evLe x y = true) (fun a b _ _ h1 h2 => evLe_anti a b h1 h2) ?_ h ((List.mergeSort_perm _ _).trans hp)
  exact List.pairwise_mergeSort (le := evLe) (fun a b c h1 h2 => evLe_trans a b c h1 h2) (fun a b => evLe_total a b) l
theorem EvOk.num1 {es : List Evt} (h : EvOk es) (i : Nat) (hi : i + 1 < (es.mergeSort numLe).length) : sameNum (es.mergeSort numLe)[i + 1] (es.mergeSort numLe)[i] = false := by
  have hp : (es.mergeSort numLe).Perm es := List.mergeSort_perm _ _
  have h2 : (es.mergeSort numLe).Pairwise fun x y => sameNum x y = false := (hp.pairwise_iff (fun {x y} h => by rw [sameNum_comm]; exact h)).2 h.num
  rw [List.pairwise_iff_getElem] at h2
  rw [sameNum_comm]
  exact h2 i (i + 1) (by omega) hi (by omega)
theorem EvOk.sub {es l : List Evt} (h : EvOk es) (hs : l.Sublist es) : EvOk l := ⟨h.srt.sublist hs, h.num.sublist hs⟩
end Go.Proofs.Ytchjbjplddhknaa

/-
  Walks: Set at a list that is in order.
-/
set_option linter.all false
namespace Go.Proofs.Ytchjbjplddhknaa
open Go Go.W Go.RowKit

theorem evSet1 (A : Option Addr) (es : List Evt) (cap : Nat) (w0 : World) (hz : RowsAt 9 evC w0 A es) (hok : EvOk es) (hl : es.length ≤ 1000) (hA : A = none → cap = 0) (hne : es ≠ []) :
    Calls Try.prog 21 #[.slice A es.length cap] w0 fun e w' => ∃ (A' : Option Addr) (c : Nat) (Lo : List Blk), e = .returned (.slice A' es.length c) ∧ OwnS A' c es.length (es.flatMap evC) 56 9 Lo ∧ SH w0 [] w' Lo := by
  have H := SH.refl w0
  have hlen : (es.mergeSort numLe).length = es.length := List.length_mergeSort _
  have hpos : 0 < es.length := List.length_pos_iff.2 hne
  refine Calls.ofWP Try.func21 rfl Try.results21 Try.ntmps21 rfl ?_
  refine WP.seq ?_
  refine WP.region ?_
  refine OPS.val rfl rfl rfl (Ev.asS rfl) ?_
  refine OPS.nil ?_
  refine WP.seq ?_
  refine WP.region ?_
  refine OPS.val rfl rfl rfl (Ev.mvS rfl) ?_
  refine OPS.call (d := some 5) rfl rfl rfl (EvC.func (fun_run rfl)) (evClone A es cap _ (hz.sh H) hl hA) ?_
  rintro _ w ⟨A', c, Lo, rfl, hO, Hc⟩
  refine ⟨_, rfl, ?_⟩
  replace H := SH.call (Lv := []) (by rw [List.append_nil]; exact H) Hc
  obtain ⟨g, sp, rfl, rfl, hc1, hc2, hc3⟩ : ∃ g sp, A' = some ⟨g, 0, none⟩ ∧ Lo = [⟨g, 56, es.flatMap evC ++ sp⟩] ∧ es.length ≤ c ∧ c ≤ maxLen ∧ (es.flatMap evC ++ sp).length = c * 9 := by
    rcases hO.form with ⟨_, h0, _⟩ | h1
    · omega
    · exact h1
  replace H : SH w0 [] w [⟨g, 56, es.flatMap evC ++ sp⟩] := H
  refine OPS.val rfl rfl rfl (Ev.asS rfl) ?_
  refine OPS.nil ?_
  refine WP.seq ?_
  refine WP.region ?_
  refine OPS.val rfl rfl rfl (Ev.mvS rfl) ?_
  refine OPS.call (d := some 7) rfl rfl rfl (EvC.func (fun_run rfl)) (sortNum es sp g c w (H.own ⟨g, 56, es.flatMap evC ++ sp⟩ (by simp)) hl) ?_
  rintro _ w ⟨rfl, Hc⟩
  refine ⟨_, rfl, ?_⟩
  replace H : SH w0 [] w [⟨g, 56, (es.mergeSort numLe).flatMap evC ++ sp⟩] := SH.call (L1 := []) (Lv := [⟨g, 56, es.flatMap evC ++ sp⟩]) H Hc
  have hR : RowsAt 9 evC w (some ⟨g, 0, none⟩) (es.mergeSort numLe) := rowsOwn (enc := evC) (sz := 9) (l := es.mergeSort numLe) (post := sp) (fun _ => rfl) H 0 rfl
  refine OPS.nil ?_
  refine WP.seq ?_
  refine WP.region ?_
  refine OPS.val rfl rfl rfl (Ev.mvS rfl) ?_
  refine OPS.call (d := some 9) rfl rfl rfl (EvC.func (fun_run rfl)) (by have h := evCompact (some ⟨g, 0, none⟩) (es.mergeSort numLe) c w hR (by omega) hok.num1; rw [hlen] at h; exact h) ?_
  rintro _ w ⟨rfl, hb⟩
  refine ⟨_, rfl, ?_⟩
  replace H := H.toBelow hb; clear hb
  refine OPS.val rfl rfl rfl (Ev.asS rfl) ?_
  refine OPS.nil ?_
  refine WP.seq ?_
  refine WP.region ?_
  refine OPS.val rfl rfl rfl (Ev.mvS rfl) ?_
  refine OPS.call (d := some 11) rfl rfl rfl (EvC.func (fun_run rfl)) (by have h := sortBy (es.mergeSort numLe) sp g c w (H.own ⟨g, 56, (es.mergeSort numLe).flatMap evC ++ sp⟩ (by simp)) (by omega); rw [hlen, sort_unique hok.srt (List.mergeSort_perm _ _)] at h; exact h) ?_
  rintro _ w ⟨rfl, Hc⟩
  refine ⟨_, rfl, ?_⟩
  replace H : SH w0 [] w [⟨g, 56, es.flatMap evC ++ sp⟩] := SH.call (L1 := []) (Lv := [⟨g, 56, (es.mergeSort numLe).flatMap evC ++ sp⟩]) H Hc
  refine OPS.nil ?_
  refine WP.seq ?_
  refine WP.region ?_
  refine OPS.val rfl rfl rfl (Ev.mvS rfl) ?_
  refine OPS.val rfl rfl rfl (Ev.asS rfl) ?_
  refine OPS.nil ?_
  refine WP.ret ⟨_, rfl, ?_⟩
  exact ⟨some ⟨g, 0, none⟩, c, _, rfl, ⟨by rw [rows_length (sz := 9) (fun _ => rfl)], .inr ⟨g, sp, rfl, rfl, hc1, hc2, hc3⟩⟩, H⟩
end Go.Proofs.Ytchjbjplddhknaa

/-
  Set at whatever list that is in order, the empty one too.
-/
set_option linter.all false
namespace Go.Proofs.Ytchjbjplddhknaa
open Go Go.W Go.RowKit

theorem sortNil (A : Option Addr) (cap : Nat) (fv : Value) (w : World) : Calls Try.prog 25 #[.slice A 0 cap, fv] w fun e w' => e = .returned (.tuple #[]) ∧ Below w.heap.size w w' :=
  (Go.Proofs.AnyF.slices_SortFunc_none Try.sortEv A cap fv w).mono fun e w' ⟨h1, h2⟩ => ⟨h1, h2 ▸ Below.refl _ _⟩
theorem evSet (A : Option Addr) (es : List Evt) (cap : Nat) (w0 : World) (hz : RowsAt 9 evC w0 A es) (hok : EvOk es) (hl : es.length ≤ 1000) (hA : A = none → cap = 0) :
    Calls Try.prog 21 #[.slice A es.length cap] w0 fun e w' => ∃ (A' : Option Addr) (c : Nat) (Lo : List Blk), e = .returned (.slice A' es.length c) ∧ OwnS A' c es.length (es.flatMap evC) 56 9 Lo ∧ SH w0 [] w' Lo := by
  by_cases hne : es = []
  · subst hne
    have H := SH.refl w0
    refine Calls.ofWP Try.func21 rfl Try.results21 Try.ntmps21 rfl ?_
    refine WP.seq ?_
    refine WP.region ?_
    refine OPS.val rfl rfl rfl (Ev.asS rfl) ?_
    refine OPS.nil ?_
    refine WP.seq ?_
    refine WP.region ?_
    refine OPS.val rfl rfl rfl (Ev.mvS rfl) ?_
    refine OPS.call (d := some 5) rfl rfl rfl (EvC.func (fun_run rfl)) (evClone A [] cap _ (hz.sh H) hl hA) ?_
    rintro _ w ⟨A', c, Lo, rfl, hO, Hc⟩
    refine ⟨_, rfl, ?_⟩
    replace H := SH.call (Lv := []) (by rw [List.append_nil]; exact H) Hc
    replace H : SH w0 [] w Lo := H
    refine OPS.val rfl rfl rfl (Ev.asS rfl) ?_
    refine OPS.nil ?_
    refine WP.seq ?_
    refine WP.region ?_
    refine OPS.val rfl rfl rfl (Ev.mvS rfl) ?_
    refine OPS.call (d := some 7) rfl rfl rfl (EvC.func (fun_run rfl)) (sortNil A' c (.func (.func 35) #[] #[]) _) ?_
    rintro _ w ⟨rfl, hb⟩
    refine ⟨_, rfl, ?_⟩
    replace H := H.toBelow hb; clear hb
    refine OPS.nil ?_
    refine WP.seq ?_
    refine WP.region ?_
    refine OPS.val rfl rfl rfl (Ev.mvS rfl) ?_
    refine OPS.call (d := some 9) rfl rfl rfl (EvC.func (fun_run rfl)) (evCompact A' [] c w RowsAt.nil (by simp) (by simp)) ?_
    rintro _ w ⟨rfl, hb⟩
    refine ⟨_, rfl, ?_⟩
    replace H := H.toBelow hb; clear hb
    refine OPS.val rfl rfl rfl (Ev.asS rfl) ?_
    refine OPS.nil ?_
    refine WP.seq ?_
    refine WP.region ?_
    refine OPS.val rfl rfl rfl (Ev.mvS rfl) ?_
    refine OPS.call (d := some 11) rfl rfl rfl (EvC.func (fun_run rfl)) (sortNil A' c (.func (.func 38) #[] #[]) _) ?_
    rintro _ w ⟨rfl, hb⟩
    refine ⟨_, rfl, ?_⟩
    replace H := H.toBelow hb; clear hb
    refine OPS.nil ?_
    refine WP.seq ?_
    refine WP.region ?_
    refine OPS.val rfl rfl rfl (Ev.mvS rfl) ?_
    refine OPS.val rfl rfl rfl (Ev.asS rfl) ?_
    refine OPS.nil ?_
    refine WP.ret ⟨_, rfl, ?_⟩
    exact ⟨A', c, _, rfl, hO, H⟩
  · exact evSet1 A es cap w0 hz hok hl hA hne
end Go.Proofs.Ytchjbjplddhknaa

/-
  A replica; walks: Since, Events.
-/
set_option linter.all false
namespace Go.Proofs.Ytchjbjplddhknaa
open Go Go.W Go.RowKit
open Go.Maps (Keyed int_keyed keyOf_int_mk)

def prE (x : Evt) : Value × Value := (.agg #[I x.d, I x.s], .agg (evC x).toArray)
/-- the replica at gR holds the events es, in the order in which they came -/
structure RepR (w : World) (n : Int) (gR gM : Nat) (es : List Evt) : Prop where
  st : w.heap[gR]? = some (.cells #[I n, .map (some gM)] 61 (0, 0))
  mp : MapAt Try.prog 78 w gM (es.map prE)
  ok : ∀ x ∈ es, 0 ≤ x.d ∧ x.d < n ∧ 1 ≤ x.s ∧ x.s ≤ 1048576
theorem RepR.sh {w0 w : World} {n : Int} {gR gM : Nat} {es : List Evt} {L : List Blk} {S : List Nat} (h : RepR w0 n gR gM es) (H : SH w0 S w L) (h1 : gR ∉ S) (h2 : gM ∉ S) : RepR w n gR gM es :=
  ⟨(H.low gR (Array.getElem?_eq_some_iff.1 h.st).1 h1).trans h.st, h.mp.sh H h2, h.ok⟩
theorem perm_pick {p : Value × Value} {todo' : List (Value × Value)} {rest : List Evt} (h : (p :: todo').Perm (rest.map prE)) : ∃ x rest', p = prE x ∧ (x :: rest').Perm rest ∧ todo'.Perm (rest'.map prE) := by
  obtain ⟨x, hx, rfl⟩ := List.mem_map.1 (h.subset (List.mem_cons_self ..))
  obtain ⟨a, b, rfl⟩ := List.append_of_mem hx
  refine ⟨x, a ++ b, rfl, List.perm_middle.symm, ?_⟩
  have h2 : ((a ++ x :: b).map prE).Perm (prE x :: (a ++ b).map prE) := (List.perm_middle.map prE)
  exact (h.trans h2).cons_inv
theorem sortOwnOrd (A : Option Addr) (out : List Evt) (c : Nat) (Lo : List Blk) (w0 w : World) (hO : OwnS A c out.length (out.flatMap evC) 56 9 Lo) (H : SH w0 [] w Lo) (hl : out.length ≤ 1000) :
    Calls Try.prog 25 #[.slice A out.length c, .func (.func 26) #[] #[]] w fun e w' => ∃ Lo', e = .returned (.tuple #[]) ∧ OwnS A c out.length ((out.mergeSort evLe).flatMap evC) 56 9 Lo' ∧ SH w0 [] w' Lo' := by
  rcases hO.form with ⟨rfl, h0, rfl, rfl⟩ | ⟨g, sp, rfl, rfl, hc1, hc2, hc3⟩
  · have : out = [] := List.length_eq_zero_iff.1 h0
    subst this
    refine (sortNil none 0 _ w).mono ?_
    rintro e w' ⟨rfl, hb⟩
    exact ⟨[], rfl, by simpa using OwnS.nil, H.toBelow hb⟩
  · refine (sortOrd out sp g c w (H.own ⟨g, 56, out.flatMap evC ++ sp⟩ (by simp)) hl).mono ?_
    rintro e w' ⟨rfl, Hc⟩
    have hl2 : ((out.mergeSort evLe).flatMap evC).length = (out.flatMap evC).length := by
      rw [rows_length (sz := 9) (fun _ => rfl), rows_length (sz := 9) (fun _ => rfl), List.length_mergeSort]
    exact ⟨_, rfl, ⟨by rw [hl2]; exact hO.len, .inr ⟨g, sp, rfl, rfl, hc1, hc2, by rw [List.length_append, hl2, ← List.length_append]; exact hc3⟩⟩, SH.call (L1 := []) (Lv := [⟨g, 56, out.flatMap evC ++ sp⟩]) H Hc⟩
theorem since (n : Int) (gR gM : Nat) (es : List Evt) (w0 : World) (h : RepR w0 n gR gM es) (hl : es.length ≤ 1000) :
    Calls Try.prog 15 #[.pointer (some ⟨gR, 0, none⟩), .slice none 0 0] w0 fun e w' => ∃ (A : Option Addr) (c : Nat) (Lo : List Blk), e = .returned (.slice A es.length c) ∧ OwnS A c es.length ((es.mergeSort evLe).flatMap evC) 56 9 Lo ∧ SH w0 [] w' Lo := by
  have H := SH.refl w0
  have cM : w0.cell? ⟨gR, 1, none⟩ = some (.map (some gM)) := cell_heap h.st rfl
  have hM := h.mp
  refine Calls.ofWP Try.func15 rfl Try.results15 Try.ntmps15 rfl ?_
  refine WP.seq ?_
  refine WP.region ?_
  refine OPS.val rfl rfl rfl (Ev.asS rfl) ?_
  refine OPS.nil ?_
  refine WP.seq ?_
  refine WP.seq ?_
  refine WP.region ?_
  refine OPS.val rfl rfl rfl (Ev.mvP rfl) ?_
  refine OPS.val rfl rfl rfl (Ev.eqlPn Try.runUnderlying29 rfl rfl) ?_
  refine OPS.nil ?_
  refine WP.cond rfl (fun hc1 => ?_) (fun hc1 => ?_)
  · refine WP.seq ?_
    refine WP.region ?_
    refine OPS.val rfl rfl rfl (Ev.asS rfl) ?_
    refine OPS.nil ?_
    refine WP.ret ⟨_, rfl, ?_⟩
    cases hc1
  refine WP.skip ?_
  refine WP.seq ?_
  refine WP.region ?_
  refine OPS.val rfl rfl rfl (Ev.asS rfl) ?_
  refine OPS.nil ?_
  refine WP.seq ?_
  refine WP.seq ?_
  refine WP.region ?_
  refine OPS.val rfl rfl rfl (Ev.mvP rfl) ?_
  refine OPS.val rfl rfl rfl ((by first | exact Ev.nilCheckP rfl | exact Ev.nilCheckF rfl)) ?_
  refine OPS.val rfl rfl rfl (Ev.fieldAddr (fld_run rfl) rfl) ?_
  refine OPS.val rfl rfl rfl (Ev.load1 (agg_run rfl) rfl (by first | exact H.ldL 0 rfl _ rfl | exact H.ldL 1 rfl _ rfl | exact H.ldL 2 rfl _ rfl | exact H.ldL 3 rfl _ rfl | exact H.ldL 4 rfl _ rfl | exact H.ldL 5 rfl _ rfl | exact H.ldL 6 rfl _ rfl | exact H.ldL 7 rfl _ rfl | exact H.ld0 (by assumption) | assumption | exact H.ldS (by assumption) (by assumption))) ?_
  refine OPS.rangeMap rfl rfl rfl rfl (hM.sh H (by simp)) Try.underlying59 rfl H ?_
  clear H; intro w gi hgi hbi H hI
  refine OPS.nil ?_
  refine WP.block ?_
  refine WP.loop [5, 6, 7, 8, 16, 17, 18, 19, 20, 21, 22, 23, 24, 25, 26, 27, 28, 29, 30, 31, 32, 33, 34, 35, 36, 37, 38] (fun k e w' => ∃ (A : Option Addr) (c : Nat) (Lo : List Blk) (out rest : List Evt) (todo : List (Value × Value)), rest.length = k ∧ (out ++ rest).Perm es ∧ todo.Perm (rest.map prE) ∧ e 5 = .slice A out.length c ∧ OwnS A c out.length (out.flatMap evC) 56 9 Lo ∧ SH w0 [] w' Lo ∧ IterAt Try.prog 78 w' gi gM (es.map prE) todo) (es.length) (⟨none, 0, [], [], es, es.map prE, rfl, List.Perm.refl _, List.Perm.refl _, rfl, OwnS.nil, H, hI⟩) ?_
  clear H hI
  rintro k u w ⟨A, c, Lo, out, rest, todo, hk, hpe, hpt, h5, hO, H, hI⟩
  refine WP.know (t := 5) h5 ?_
  have hle : out.length + rest.length = es.length := by have := hpe.length_eq; simpa using this
  refine WP.seq ?_
  refine WP.region ?_
  refine OPS.nextMap2 rfl rfl rfl rfl hI rfl H hgi ?_
  clear H; intro w q p todo' H hno hyes
  refine OPS.val rfl rfl rfl (Ev.extract (v := .bool q) rfl (by cases q <;> rfl)) ?_
  refine OPS.nil ?_
  refine WP.seq ?_
  refine WP.cond rfl (fun hc5 => ?_) (fun hc5 => ?_)
  · obtain rfl : q = true := hc5
    obtain ⟨hp, _, hI, hC⟩ := hyes rfl
    obtain ⟨x, rest', rfl, hpr, hpt'⟩ := perm_pick (hp.trans hpt)
    have hxe : x ∈ es := hpe.subset (List.mem_append_right _ (hpr.subset (List.mem_cons_self ..)))
    have hxk := h.ok x hxe
    have hlr := hpr.length_eq
    have HB := H
    have ni : gi ∉ Lo.map (·.g) := hI.notMem HB
    have nM : gM ∉ Lo.map (·.g) := hI.map.notMem HB
    have hI0 := hI
    replace H := H.restart (List.Sublist.refl _)
    refine WP.skip ?_
    refine WP.block ?_
    refine WP.seq ?_
    refine WP.region ?_
    refine OPS.val rfl rfl rfl (Ev.entry hC rfl) ?_
    refine OPS.val rfl rfl rfl (Ev.extract rfl rfl) ?_
    refine OPS.val rfl rfl rfl (Ev.extract rfl rfl) ?_
    refine OPS.alloc rfl rfl rfl rfl (zero_run rfl) rfl H ?_
    clear H; intro g6 w H
    refine OPS.alloc rfl rfl rfl rfl (zero_run rfl) rfl H ?_
    clear H; intro g7 w H
    first | refine OPS.store 0 _ rfl rfl rfl (size_run rfl) rfl (cA rfl) rfl rfl H rfl (by simp) ?_ | refine OPS.store 1 _ rfl rfl rfl (size_run rfl) rfl (cA rfl) rfl rfl H rfl (by simp) ?_ | refine OPS.store 2 _ rfl rfl rfl (size_run rfl) rfl (cA rfl) rfl rfl H rfl (by simp) ?_ | refine OPS.store 3 _ rfl rfl rfl (size_run rfl) rfl (cA rfl) rfl rfl H rfl (by simp) ?_ | refine OPS.store 4 _ rfl rfl rfl (size_run rfl) rfl (cA rfl) rfl rfl H rfl (by simp) ?_ | refine OPS.store 5 _ rfl rfl rfl (size_run rfl) rfl (cA rfl) rfl rfl H rfl (by simp) ?_ | refine OPS.store 6 _ rfl rfl rfl (size_run rfl) rfl (cA rfl) rfl rfl H rfl (by simp) ?_ | refine OPS.store 7 _ rfl rfl rfl (size_run rfl) rfl (cA rfl) rfl rfl H rfl (by simp) ?_ | refine OPS.store 8 _ rfl rfl rfl (size_run rfl) rfl (cA rfl) rfl rfl H rfl (by simp) ?_
    clear H; intro w H; try simp only [List.set_cons_zero, List.set_cons_succ, putL, Nat.zero_add] at H
    first | refine OPS.store 0 _ rfl rfl rfl (size_run rfl) rfl (cA rfl) rfl rfl H rfl (by simp) ?_ | refine OPS.store 1 _ rfl rfl rfl (size_run rfl) rfl (cA rfl) rfl rfl H rfl (by simp) ?_ | refine OPS.store 2 _ rfl rfl rfl (size_run rfl) rfl (cA rfl) rfl rfl H rfl (by simp) ?_ | refine OPS.store 3 _ rfl rfl rfl (size_run rfl) rfl (cA rfl) rfl rfl H rfl (by simp) ?_ | refine OPS.store 4 _ rfl rfl rfl (size_run rfl) rfl (cA rfl) rfl rfl H rfl (by simp) ?_ | refine OPS.store 5 _ rfl rfl rfl (size_run rfl) rfl (cA rfl) rfl rfl H rfl (by simp) ?_ | refine OPS.store 6 _ rfl rfl rfl (size_run rfl) rfl (cA rfl) rfl rfl H rfl (by simp) ?_ | refine OPS.store 7 _ rfl rfl rfl (size_run rfl) rfl (cA rfl) rfl rfl H rfl (by simp) ?_ | refine OPS.store 8 _ rfl rfl rfl (size_run rfl) rfl (cA rfl) rfl rfl H rfl (by simp) ?_
    clear H; intro w H; try simp only [List.set_cons_zero, List.set_cons_succ, putL, Nat.zero_add] at H
    refine OPS.nil ?_
    refine WP.seq ?_
    refine WP.region ?_
    refine OPS.val rfl rfl rfl (Ev.asI rfl) ?_
    refine OPS.nil ?_
    refine WP.seq ?_
    refine WP.seq ?_
    refine WP.region ?_
    refine OPS.val rfl rfl rfl (Ev.fieldAddr (fld_run rfl) rfl) ?_
    refine OPS.val rfl rfl rfl (Ev.load1 (agg_run rfl) rfl (by first | exact H.ldL 0 rfl _ rfl | exact H.ldL 1 rfl _ rfl | exact H.ldL 2 rfl _ rfl | exact H.ldL 3 rfl _ rfl | exact H.ldL 4 rfl _ rfl | exact H.ldL 5 rfl _ rfl | exact H.ldL 6 rfl _ rfl | exact H.ldL 7 rfl _ rfl | exact H.ld0 (by assumption) | assumption | exact H.ldS (by assumption) (by assumption))) ?_
    refine OPS.val rfl rfl rfl (Ev.mvS rfl) ?_
    refine OPS.val rfl rfl rfl (Ev.len (el_run rfl) rfl) ?_
    refine OPS.val rfl rfl rfl (Ev.lss rfl rfl) ?_
    refine OPS.nil ?_
    refine WP.cond rfl (fun hc8 => ?_) (fun hc8 => ?_)
    · have h1 := of_decide_eq_true hc8
      have h2 := hxk.1
      simp at h1
      omega
    refine WP.skip ?_
    refine WP.seq ?_
    refine WP.region ?_
    refine OPS.val rfl rfl rfl (Ev.fieldAddr (fld_run rfl) rfl) ?_
    refine OPS.val rfl rfl rfl (Ev.load1 (agg_run rfl) rfl (by first | exact H.ldL 0 rfl _ rfl | exact H.ldL 1 rfl _ rfl | exact H.ldL 2 rfl _ rfl | exact H.ldL 3 rfl _ rfl | exact H.ldL 4 rfl _ rfl | exact H.ldL 5 rfl _ rfl | exact H.ldL 6 rfl _ rfl | exact H.ldL 7 rfl _ rfl | exact H.ld0 (by assumption) | assumption | exact H.ldS (by assumption) (by assumption))) ?_
    refine OPS.val rfl rfl rfl (Ev.mvI rfl) ?_
    refine OPS.val rfl rfl rfl (Ev.gtr rfl rfl) ?_
    refine OPS.nil ?_
    refine WP.cond rfl (fun hc10 => ?_) (fun hc10 => ?_)
    · refine WP.region ?_
      refine OPS.val rfl rfl rfl (Ev.mvS rfl) ?_
      refine OPS.val rfl rfl rfl ((by first | exact Ev.loadO 0 H rfl (agg_run rfl) (size_run rfl) (by first | assumption | rfl) rfl | exact Ev.loadO 1 H rfl (agg_run rfl) (size_run rfl) (by first | assumption | rfl) rfl | exact Ev.loadO 2 H rfl (agg_run rfl) (size_run rfl) (by first | assumption | rfl) rfl | exact Ev.loadO 3 H rfl (agg_run rfl) (size_run rfl) (by first | assumption | rfl) rfl | exact Ev.loadO 4 H rfl (agg_run rfl) (size_run rfl) (by first | assumption | rfl) rfl | exact Ev.loadO 5 H rfl (agg_run rfl) (size_run rfl) (by first | assumption | rfl) rfl | exact Ev.loadO 6 H rfl (agg_run rfl) (size_run rfl) (by first | assumption | rfl) rfl | (change Ev _ _ _ _ (Op.load 56 (Operand.tmp 7)) _; fail))) ?_
      refine OPS.buildSlice rfl rfl rfl rfl (bsl_25_1_0 rfl) H ?_
      clear H; intro g37 w H
      refine OPS.append (m := 1) (news := evC x) (R := [⟨g37, 56, evC x⟩, ⟨g7, 56, evC x⟩, ⟨g6, 78, [I x.d, I x.s]⟩]) rfl rfl rfl rfl rfl (sl_run rfl) rfl rfl hO rfl (src_own H 0 rfl) (evOne x) (by omega) (by unfold maxLen; omega) H (List.Perm.refl _) ?_
      clear H hO; intro A c Lo' w hO H
      refine OPS.val rfl rfl rfl (Ev.asS rfl) ?_
      refine OPS.nil ?_
      first
        | exact hdead.elim
        | (
           have hO' : OwnS A c (out ++ [x]).length ((out ++ [x]).flatMap evC) 56 9 Lo' := by
             rw [List.flatMap_append, List.length_append]; simpa using hO
           refine ⟨(by repeat (first | exact Agree.refl _ _ | exact Agree.mix _ _ _ | refine Agree.upd rfl ?_ | refine Agree.mix2 rfl ?_)), rest'.length, by simp at hlr; omega, A, c, Lo', out ++ [x], rest', todo', rfl, ?_, hpt', by rw [List.length_append]; rfl, hO', (SH.cont HB H).drop (List.sublist_append_right _ _), hI0.sh H ni nM⟩
           rw [List.append_assoc]
           exact (List.Perm.append_left out hpr).trans hpe)
    have hdead : False := by
      have h1 := of_decide_eq_false hc10
      have h2 := hxk.2.2.1
      omega
    refine WP.skip ?_
    first
      | exact hdead.elim
      | (
         have hO' : OwnS A c (out ++ [x]).length ((out ++ [x]).flatMap evC) 56 9 Lo' := by
           rw [List.flatMap_append, List.length_append]; simpa using hO
         refine ⟨(by repeat (first | exact Agree.refl _ _ | exact Agree.mix _ _ _ | refine Agree.upd rfl ?_ | refine Agree.mix2 rfl ?_)), rest'.length, by simp at hlr; omega, A, c, Lo', out ++ [x], rest', todo', rfl, ?_, hpt', by rw [List.length_append]; rfl, hO', (SH.cont HB H).drop (List.sublist_append_right _ _), hI0.sh H ni nM⟩
         rw [List.append_assoc]
         exact (List.Perm.append_left out hpr).trans hpe)
  refine WP.exit ?_
  refine XB.hit ?_
  refine WP.seq ?_
  refine WP.region ?_
  refine OPS.val rfl rfl rfl (Ev.mvS rfl) ?_
  obtain rfl : q = false := hc5
  have h0 := hno rfl
  subst h0
  have hr0 : rest = [] := by have := hpt.length_eq; simpa using this.symm
  subst hr0
  rw [List.append_nil] at hpe
  have hlo : out.length = es.length := hpe.length_eq
  refine OPS.call (d := some 40) rfl rfl rfl (EvC.func (fun_run rfl)) (sortOwnOrd A out c Lo w0 w hO H (by omega)) ?_
  rintro _ w ⟨Lo', rfl, hO', H'⟩
  refine ⟨_, rfl, ?_⟩
  clear H
  have H := H'
  refine OPS.nil ?_
  refine WP.seq ?_
  refine WP.region ?_
  refine OPS.val rfl rfl rfl (Ev.mvS rfl) ?_
  refine OPS.val rfl rfl rfl (Ev.asS rfl) ?_
  refine OPS.nil ?_
  refine WP.ret ⟨_, rfl, ?_⟩
  have hs : out.mergeSort evLe = es.mergeSort evLe := by
    refine List.Perm.eq_of_pairwise (le := fun x y => evLe x y = true) (fun a b _ _ h1 h2 => evLe_anti a b h1 h2) ?_ ?_ (((List.mergeSort_perm _ _).trans hpe).trans (List.mergeSort_perm _ _).symm)
    · exact List.pairwise_mergeSort (le := evLe) (fun a b c h1 h2 => evLe_trans a b c h1 h2) (fun a b => evLe_total a b) _
    · exact List.pairwise_mergeSort (le := evLe) (fun a b c h1 h2 => evLe_trans a b c h1 h2) (fun a b => evLe_total a b) _
  rw [hlo, hs] at hO'
  exact ⟨A, c, Lo', by rw [← hlo]; rfl, hO', H⟩
end Go.Proofs.Ytchjbjplddhknaa

/-
  Walks: fits; whether two events are equal; how many entries a map has.
-/
set_option linter.all false
namespace Go.Proofs.Ytchjbjplddhknaa
open Go Go.W Go.RowKit
open Go.Maps (Keyed int_keyed keyOf_int_mk)

section
variable {P : Program} {e : Env} {w : World} {ty t k el : TypeId} {x : Operand} {g : Nat} {m : List (Value × Value)}
theorem Ev.lenMap (h : MapAt P k w g m) (ht : P.underlying t = some (.map k el)) (hx : ev e x = .map (some g)) : Ev P e w ty (.call { callee := .builtin .len, args := #[x], argTypes := #[t] }) (.int .i64 m.length) :=
  ⟨fun w' hb o ho _ => by
    obtain ⟨es, cl, hb', _, _, rfl⟩ := (h.below hb).ex
    unfold execOp; rw [ho]
    simp [resolve, invoke, builtin, Builtin.len_, hx, run_underlying ht, MapKept.run_getObj_map hb', goInt, Result.andThen]⟩
end
theorem eqG56 : Try.prog.eqGuardType Try.prog.depth 56 = false := by kernel_rfl
theorem eqS56 (x y : Evt) : ∀ w, (Op.equal 56 (.agg (evC x).toArray) (.agg (evC y).toArray)).run Try.prog w = .ok (decide (x = y)) w := by
  intro w
  have hs : Try.prog.stoodInHeld 56 = false := by kernel_rfl
  unfold Op.equal Op.maxDepth
  rw [Op.equalIn]
  simp only [Sem.run_bind, Try.runUnderlying56, Result.andThen_ok, prog_run, hs]
  obtain ⟨x1, x2, x3, x4, x5, x6, x7, x8, x9⟩ := x
  obtain ⟨y1, y2, y3, y4, y5, y6, y7, y8, y9⟩ := y
  simp [part, evC, Try.isAgg3, Sem.run_bind, Sem.run_pure, intEq]
  by_cases h1 : x1 = y1 <;> (try simp [h1])
  by_cases h2 : x2 = y2 <;> (try simp [h2])
  by_cases h3 : x3 = y3 <;> (try simp [h3])
  by_cases h4 : x4 = y4 <;> (try simp [h4])
  by_cases h5 : x5 = y5 <;> (try simp [h5])
  by_cases h6 : x6 = y6 <;> (try simp [h6])
  by_cases h7 : x7 = y7 <;> (try simp [h7])
  by_cases h8 : x8 = y8 <;> (try simp [h8])
  by_cases h9 : x9 = y9 <;> (try simp [h9])
/-- two events of one device that are not in the order of time -/
def confE (y x : Evt) : Bool := decide (y.d = x.d) && ((decide (y.s < x.s) && decide (x.a < y.a)) || (decide (x.s < y.s) && decide (y.a < x.a)))
def fitB (x : Evt) (es : List Evt) : Bool := es.all fun y => !confE y x
theorem fitsR (n : Int) (gR gM : Nat) (es : List Evt) (x : Evt) (w0 : World) (h : RepR w0 n gR gM es) (hl : es.length ≤ 1000) :
    Calls Try.prog 24 #[.pointer (some ⟨gR, 0, none⟩), .agg (evC x).toArray] w0 fun e w' => e = .returned (.bool (fitB x es)) ∧ Below w0.heap.size w0 w' := by
  have H := SH.refl w0
  have cM : w0.cell? ⟨gR, 1, none⟩ = some (.map (some gM)) := cell_heap h.st rfl
  have hM := h.mp
  refine Calls.ofWP Try.func24 rfl Try.results24 Try.ntmps24 rfl ?_
  refine WP.seq ?_
  refine WP.region ?_
  refine OPS.box rfl rfl rfl rfl (cA rfl) H ?_
  clear H; intro g3 w H
  refine OPS.val rfl rfl rfl (Ev.asB rfl) ?_
  refine OPS.nil ?_
  refine WP.seq ?_
  refine WP.seq ?_
  refine WP.region ?_
  refine OPS.val rfl rfl rfl (Ev.mvP rfl) ?_
  refine OPS.val rfl rfl rfl ((by first | exact Ev.nilCheckP rfl | exact Ev.nilCheckF rfl)) ?_
  refine OPS.val rfl rfl rfl (Ev.fieldAddr (fld_run rfl) rfl) ?_
  refine OPS.val rfl rfl rfl (Ev.load1 (agg_run rfl) rfl (by first | exact H.ldL 0 rfl _ rfl | exact H.ldL 1 rfl _ rfl | exact H.ldL 2 rfl _ rfl | exact H.ldL 3 rfl _ rfl | exact H.ldL 4 rfl _ rfl | exact H.ldL 5 rfl _ rfl | exact H.ldL 6 rfl _ rfl | exact H.ldL 7 rfl _ rfl | exact H.ld0 (by assumption) | assumption | exact H.ldS (by assumption) (by assumption))) ?_
  refine OPS.rangeMap rfl rfl rfl rfl (hM.sh H (by simp)) Try.underlying59 rfl H ?_
  clear H; intro w gi hgi hbi H hI
  refine OPS.nil ?_
  refine WP.block ?_
  refine WP.loop [4, 6, 12, 13, 14, 15, 16, 17, 18, 19, 20, 21, 22, 23, 24, 25, 26, 27, 28, 29, 30, 31, 32, 33, 34, 35, 36, 37, 38, 39, 40, 41, 42, 43, 44, 45, 46, 47, 48] (fun k e w' => ∃ (rest : List Evt) (todo : List (Value × Value)), rest.length = k ∧ (∀ y ∈ rest, y ∈ es) ∧ (∀ y ∈ es, y ∈ rest ∨ confE y x = false) ∧ todo.Perm (rest.map prE) ∧ SH w0 [] w' [⟨g3, 56, evC x⟩] ∧ IterAt Try.prog 78 w' gi gM (es.map prE) todo) (es.length) (⟨es, es.map prE, rfl, fun _ h => h, fun _ h => .inl h, List.Perm.refl _, H, hI⟩) ?_
  clear H hI
  rintro k u w ⟨rest, todo, hk, hsub, hall, hpt, H, hI⟩
  refine WP.seq ?_
  refine WP.region ?_
  refine OPS.nextMap2 rfl rfl rfl rfl hI rfl H hgi ?_
  clear H; intro w q p todo' H hno hyes
  refine OPS.val rfl rfl rfl (Ev.extract (v := .bool q) rfl (by cases q <;> rfl)) ?_
  refine OPS.nil ?_
  refine WP.seq ?_
  refine WP.cond rfl (fun hc2 => ?_) (fun hc2 => ?_)
  · obtain rfl : q = true := hc2
    obtain ⟨hp, _, hI, hC⟩ := hyes rfl
    obtain ⟨y, rest', rfl, hpr, hpt'⟩ := perm_pick (hp.trans hpt)
    have hlr := hpr.length_eq
    have hye : y ∈ es := hsub y (hpr.subset (List.mem_cons_self ..))
    have HB := H
    have ni : gi ∉ [(⟨g3, 56, evC x⟩ : Blk)].map (·.g) := hI.notMem HB
    have nM : gM ∉ [(⟨g3, 56, evC x⟩ : Blk)].map (·.g) := hI.map.notMem HB
    have hI0 := hI
    replace H := H.restart (List.Sublist.refl _)
    refine WP.skip ?_
    refine WP.block ?_
    refine WP.seq ?_
    refine WP.region ?_
    refine OPS.val rfl rfl rfl (Ev.entry hC rfl) ?_
    refine OPS.val rfl rfl rfl (Ev.extract rfl rfl) ?_
    refine OPS.alloc rfl rfl rfl rfl (zero_run rfl) rfl H ?_
    clear H; intro g6 w H
    first | refine OPS.store 0 _ rfl rfl rfl (size_run rfl) rfl (cA rfl) rfl rfl H rfl (by simp) ?_ | refine OPS.store 1 _ rfl rfl rfl (size_run rfl) rfl (cA rfl) rfl rfl H rfl (by simp) ?_ | refine OPS.store 2 _ rfl rfl rfl (size_run rfl) rfl (cA rfl) rfl rfl H rfl (by simp) ?_ | refine OPS.store 3 _ rfl rfl rfl (size_run rfl) rfl (cA rfl) rfl rfl H rfl (by simp) ?_ | refine OPS.store 4 _ rfl rfl rfl (size_run rfl) rfl (cA rfl) rfl rfl H rfl (by simp) ?_ | refine OPS.store 5 _ rfl rfl rfl (size_run rfl) rfl (cA rfl) rfl rfl H rfl (by simp) ?_ | refine OPS.store 6 _ rfl rfl rfl (size_run rfl) rfl (cA rfl) rfl rfl H rfl (by simp) ?_ | refine OPS.store 7 _ rfl rfl rfl (size_run rfl) rfl (cA rfl) rfl rfl H rfl (by simp) ?_ | refine OPS.store 8 _ rfl rfl rfl (size_run rfl) rfl (cA rfl) rfl rfl H rfl (by simp) ?_
    clear H; intro w H; try simp only [List.set_cons_zero, List.set_cons_succ, putL, Nat.zero_add] at H
    refine OPS.nil ?_
    replace H : SH _ _ w [⟨g6, 56, [I y.d, I y.s, I y.a, I y.l, I y.k, I y.b, I y.p, I y.r, I y.i]⟩, ⟨g3, 56, [I x.d, I x.s, I x.a, I x.l, I x.k, I x.b, I x.p, I x.r, I x.i]⟩] := H
    refine WP.seq ?_
    refine WP.region ?_
    refine OPS.val rfl rfl rfl (Ev.fieldAddr (fld_run rfl) rfl) ?_
    refine OPS.val rfl rfl rfl (Ev.load1 (agg_run rfl) rfl (by first | exact H.ldL 0 rfl _ rfl | exact H.ldL 1 rfl _ rfl | exact H.ldL 2 rfl _ rfl | exact H.ldL 3 rfl _ rfl | exact H.ldL 4 rfl _ rfl | exact H.ldL 5 rfl _ rfl | exact H.ldL 6 rfl _ rfl | exact H.ldL 7 rfl _ rfl | exact H.ld0 (by assumption) | assumption | exact H.ldS (by assumption) (by assumption))) ?_
    refine OPS.val rfl rfl rfl (Ev.fieldAddr (fld_run rfl) rfl) ?_
    refine OPS.val rfl rfl rfl (Ev.load1 (agg_run rfl) rfl (by first | exact H.ldL 0 rfl _ rfl | exact H.ldL 1 rfl _ rfl | exact H.ldL 2 rfl _ rfl | exact H.ldL 3 rfl _ rfl | exact H.ldL 4 rfl _ rfl | exact H.ldL 5 rfl _ rfl | exact H.ldL 6 rfl _ rfl | exact H.ldL 7 rfl _ rfl | exact H.ld0 (by assumption) | assumption | exact H.ldS (by assumption) (by assumption))) ?_
    refine OPS.val rfl rfl rfl (Ev.eql rfl rfl) ?_
    refine OPS.val rfl rfl rfl (Ev.mvB rfl) ?_
    refine OPS.gval rfl rfl rfl rfl rfl (fun hg => Ev.fieldAddr (fld_run rfl) (by first | rfl | exact gvE hg rfl)) ?_
    refine OPS.gval rfl rfl rfl rfl rfl (fun hg => Ev.load1 (agg_run rfl) (by first | rfl | exact gvE hg rfl) (by first | exact H.ldL 0 rfl _ rfl | exact H.ldL 1 rfl _ rfl | exact H.ldL 2 rfl _ rfl | exact H.ldL 3 rfl _ rfl | exact H.ldL 4 rfl _ rfl | exact H.ldL 5 rfl _ rfl | exact H.ldL 6 rfl _ rfl | exact H.ldL 7 rfl _ rfl | exact H.ld0 (by assumption) | assumption | exact H.ldS (by assumption) (by assumption))) ?_
    refine OPS.gval rfl rfl rfl rfl rfl (fun hg => Ev.fieldAddr (fld_run rfl) (by first | rfl | exact gvE hg rfl)) ?_
    refine OPS.gval rfl rfl rfl rfl rfl (fun hg => Ev.load1 (agg_run rfl) (by first | rfl | exact gvE hg rfl) (by first | exact H.ldL 0 rfl _ rfl | exact H.ldL 1 rfl _ rfl | exact H.ldL 2 rfl _ rfl | exact H.ldL 3 rfl _ rfl | exact H.ldL 4 rfl _ rfl | exact H.ldL 5 rfl _ rfl | exact H.ldL 6 rfl _ rfl | exact H.ldL 7 rfl _ rfl | exact H.ld0 (by assumption) | assumption | exact H.ldS (by assumption) (by assumption))) ?_
    refine OPS.gval rfl rfl rfl rfl rfl (fun hg => Ev.lss (by first | rfl | exact gvE hg rfl) (by first | rfl | exact gvE hg rfl)) ?_
    refine OPS.gval rfl rfl rfl rfl rfl (fun hg => Ev.mvB (by first | rfl | exact gvE hg rfl)) ?_
    refine OPS.gvalN rfl rfl (GB.g rfl) rfl rfl (fun hg => Ev.fieldAddr (fld_run rfl) (by first | rfl | exact gvE hg rfl)) ?_
    refine OPS.gvalN rfl rfl (GB.g rfl) rfl rfl (fun hg => Ev.load1 (agg_run rfl) (by first | rfl | exact gvE hg rfl) (by first | exact H.ldL 0 rfl _ rfl | exact H.ldL 1 rfl _ rfl | exact H.ldL 2 rfl _ rfl | exact H.ldL 3 rfl _ rfl | exact H.ldL 4 rfl _ rfl | exact H.ldL 5 rfl _ rfl | exact H.ldL 6 rfl _ rfl | exact H.ldL 7 rfl _ rfl | exact H.ld0 (by assumption) | assumption | exact H.ldS (by assumption) (by assumption))) ?_
    refine OPS.gvalN rfl rfl (GB.g rfl) rfl rfl (fun hg => Ev.fieldAddr (fld_run rfl) (by first | rfl | exact gvE hg rfl)) ?_
    refine OPS.gvalN rfl rfl (GB.g rfl) rfl rfl (fun hg => Ev.load1 (agg_run rfl) (by first | rfl | exact gvE hg rfl) (by first | exact H.ldL 0 rfl _ rfl | exact H.ldL 1 rfl _ rfl | exact H.ldL 2 rfl _ rfl | exact H.ldL 3 rfl _ rfl | exact H.ldL 4 rfl _ rfl | exact H.ldL 5 rfl _ rfl | exact H.ldL 6 rfl _ rfl | exact H.ldL 7 rfl _ rfl | exact H.ld0 (by assumption) | assumption | exact H.ldS (by assumption) (by assumption))) ?_
    refine OPS.gvalN rfl rfl (GB.g rfl) rfl rfl (fun hg => Ev.gtr (by first | rfl | exact gvE hg rfl) (by first | rfl | exact gvE hg rfl)) ?_
    refine OPS.gval rfl rfl rfl rfl rfl (fun hg => (by first | exact Ev.pickAnd2 (beqT hg) (gvE hg rfl) rfl rfl | exact Ev.pickOr2 (beqT hg) (gvE hg rfl) rfl rfl)) ?_
    refine OPS.gval rfl rfl rfl rfl rfl (fun hg => Ev.mvB (by first | rfl | exact gvE hg rfl)) ?_
    refine OPS.gvalN rfl rfl (GB.g rfl) rfl rfl (fun hg => Ev.fieldAddr (fld_run rfl) (by first | rfl | exact gvE hg rfl)) ?_
    refine OPS.gvalN rfl rfl (GB.g rfl) rfl rfl (fun hg => Ev.load1 (agg_run rfl) (by first | rfl | exact gvE hg rfl) (by first | exact H.ldL 0 rfl _ rfl | exact H.ldL 1 rfl _ rfl | exact H.ldL 2 rfl _ rfl | exact H.ldL 3 rfl _ rfl | exact H.ldL 4 rfl _ rfl | exact H.ldL 5 rfl _ rfl | exact H.ldL 6 rfl _ rfl | exact H.ldL 7 rfl _ rfl | exact H.ld0 (by assumption) | assumption | exact H.ldS (by assumption) (by assumption))) ?_
    refine OPS.gvalN rfl rfl (GB.g rfl) rfl rfl (fun hg => Ev.fieldAddr (fld_run rfl) (by first | rfl | exact gvE hg rfl)) ?_
    refine OPS.gvalN rfl rfl (GB.g rfl) rfl rfl (fun hg => Ev.load1 (agg_run rfl) (by first | rfl | exact gvE hg rfl) (by first | exact H.ldL 0 rfl _ rfl | exact H.ldL 1 rfl _ rfl | exact H.ldL 2 rfl _ rfl | exact H.ldL 3 rfl _ rfl | exact H.ldL 4 rfl _ rfl | exact H.ldL 5 rfl _ rfl | exact H.ldL 6 rfl _ rfl | exact H.ldL 7 rfl _ rfl | exact H.ld0 (by assumption) | assumption | exact H.ldS (by assumption) (by assumption))) ?_
    refine OPS.gvalN rfl rfl (GB.g rfl) rfl rfl (fun hg => Ev.gtr (by first | rfl | exact gvE hg rfl) (by first | rfl | exact gvE hg rfl)) ?_
    refine OPS.gvalN rfl rfl (GB.g rfl) rfl rfl (fun hg => Ev.mvB (by first | rfl | exact gvE hg rfl)) ?_
    refine OPS.gvalN rfl rfl (GB.g rfl) rfl rfl (fun hg => Ev.fieldAddr (fld_run rfl) (by first | rfl | exact gvE hg rfl)) ?_
    refine OPS.gvalN rfl rfl (GB.g rfl) rfl rfl (fun hg => Ev.load1 (agg_run rfl) (by first | rfl | exact gvE hg rfl) (by first | exact H.ldL 0 rfl _ rfl | exact H.ldL 1 rfl _ rfl | exact H.ldL 2 rfl _ rfl | exact H.ldL 3 rfl _ rfl | exact H.ldL 4 rfl _ rfl | exact H.ldL 5 rfl _ rfl | exact H.ldL 6 rfl _ rfl | exact H.ldL 7 rfl _ rfl | exact H.ld0 (by assumption) | assumption | exact H.ldS (by assumption) (by assumption))) ?_
    refine OPS.gvalN rfl rfl (GB.g rfl) rfl rfl (fun hg => Ev.fieldAddr (fld_run rfl) (by first | rfl | exact gvE hg rfl)) ?_
    refine OPS.gvalN rfl rfl (GB.g rfl) rfl rfl (fun hg => Ev.load1 (agg_run rfl) (by first | rfl | exact gvE hg rfl) (by first | exact H.ldL 0 rfl _ rfl | exact H.ldL 1 rfl _ rfl | exact H.ldL 2 rfl _ rfl | exact H.ldL 3 rfl _ rfl | exact H.ldL 4 rfl _ rfl | exact H.ldL 5 rfl _ rfl | exact H.ldL 6 rfl _ rfl | exact H.ldL 7 rfl _ rfl | exact H.ld0 (by assumption) | assumption | exact H.ldS (by assumption) (by assumption))) ?_
    refine OPS.gvalN rfl rfl (GB.g rfl) rfl rfl (fun hg => Ev.lss (by first | rfl | exact gvE hg rfl) (by first | rfl | exact gvE hg rfl)) ?_
    refine OPS.gvalN rfl rfl (GB.g rfl) rfl rfl (fun hg => (by first | exact Ev.pickAnd2 (beqT hg) (gvE hg rfl) rfl rfl | exact Ev.pickOr2 (beqT hg) (gvE hg rfl) rfl rfl)) ?_
    refine OPS.gval rfl rfl rfl rfl rfl (fun hg => (by first | exact Ev.pickAnd2 (beqT hg) (gvE hg rfl) rfl rfl | exact Ev.pickOr2 (beqT hg) (gvE hg rfl) rfl rfl)) ?_
    refine OPS.val rfl rfl rfl ((by first | exact Ev.pickOr rfl rfl rfl | exact Ev.pickAnd rfl rfl rfl)) ?_
    refine OPS.nil ?_
    refine WP.cond rfl (fun hc4 => ?_) (fun hc4 => ?_)
    · refine WP.seq ?_
      refine WP.region ?_
      refine OPS.val rfl rfl rfl (Ev.asB rfl) ?_
      refine OPS.nil ?_
      refine WP.ret ⟨_, rfl, ?_⟩
      have hcf : confE y x = true := hc4
      refine ⟨?_, (SH.cont HB H).below⟩
      have : fitB x es = false := by
        rw [fitB, List.all_eq_false]
        exact ⟨y, hye, by simp [hcf]⟩
      rw [this]; rfl
    have hcf : confE y x = false := hc4
    refine WP.skip ?_
    refine ⟨(by repeat (first | exact Agree.refl _ _ | exact Agree.mix _ _ _ | refine Agree.upd rfl ?_ | refine Agree.mix2 rfl ?_)), rest'.length, by simp at hlr; omega, rest', todo', rfl, fun z hz => hsub z (hpr.subset (List.mem_cons_of_mem _ hz)), fun z hz => ?_, hpt', (SH.cont HB H).drop (List.sublist_cons_self _ _), hI0.sh H ni nM⟩
    rcases hall z hz with h1 | h1
    · rcases List.mem_cons.1 (hpr.symm.subset h1) with rfl | h2
      · exact .inr hcf
      · exact .inl h2
    · exact .inr h1
  refine WP.exit ?_
  refine XB.hit ?_
  refine WP.seq ?_
  refine WP.region ?_
  refine OPS.val rfl rfl rfl (Ev.asB rfl) ?_
  refine OPS.nil ?_
  refine WP.ret ⟨_, rfl, ?_⟩
  obtain rfl : q = false := hc2
  have h0 := hno rfl
  subst h0
  have hr0 : rest = [] := by have := hpt.length_eq; simpa using this.symm
  subst hr0
  refine ⟨?_, H.below⟩
  have : fitB x es = true := by
    rw [fitB, List.all_eq_true]
    intro z hz
    rcases hall z hz with h1 | h1
    · cases h1
    · simp [h1]
  rw [this]; rfl
end Go.Proofs.Ytchjbjplddhknaa
