/-
  Plain: plans, and what is wrong with them.
-/
import Derived.Test.YtcgicnfjcndedaaT19
import Derived.Test.YtcgicnfjcndedaaArg
set_option linter.all false
namespace Go.Proofs.Ytcgicnfjcndedaa
open Go Go.W Go.RowKit

open Classical in
theorem sum_count {α : Type} (x : α) (l : List α) : (l.map fun y => if y = x then 1 else 0).sum = List.count x l := by
  induction l with
  | nil => rfl
  | cons a l ih =>
    rw [List.map_cons, List.sum_cons, ih, List.count_cons]
    by_cases h : a = x <;> simp [h] <;> omega
open Classical in
theorem perm_by {α : Type} {l l' : List α} (h : ∀ f : α → Nat, (l.map f).sum = (l'.map f).sum) : l.Perm l' :=
  List.perm_iff_count.2 fun x => by rw [← sum_count, ← sum_count]; exact h _
/-- a route, as it lies in memory -/
structure Rt where
  trk : Int
  nd : SlA Int
def rtCells (r : Rt) : List Value := [I r.trk, .slice r.nd.A r.nd.l.length r.nd.cap]
theorem rtCells_len (r : Rt) : (rtCells r).length = 2 := rfl
structure RtsAt (w : World) (A : Option Addr) (rs : List Rt) : Prop where
  rows : RowsAt 2 rtCells w A rs
  ints : ∀ r ∈ rs, IntsAt w r.nd.A r.nd.l
  cap : ∀ r ∈ rs, r.nd.l.length ≤ r.nd.cap
  len : ∀ r ∈ rs, r.nd.l.length ≤ 1000
  few : rs.length ≤ 1000
theorem RtsAt.below {w w' : World} {A : Option Addr} {rs : List Rt} (h : RtsAt w A rs) (hb : Below w.heap.size w w') : RtsAt w' A rs :=
  ⟨h.rows.below hb, fun r hr => (h.ints r hr).below hb, h.cap, h.len, h.few⟩
theorem RtsAt.sh {w w' : World} {A : Option Addr} {rs : List Rt} {L : List Blk} (h : RtsAt w A rs) (H : SH w [] w' L) : RtsAt w' A rs := h.below H.below
def allN (rs : List Rt) : List Int := rs.flatMap (·.nd.l)
theorem allN_len : ∀ (rs : List Rt), (∀ r ∈ rs, r.nd.l.length ≤ 1000) → (allN rs).length ≤ 1000 * rs.length
  | [], _ => Nat.le_refl _
  | r :: rs, h => by
    have h1 := h r (by simp)
    have h2 := allN_len rs fun x hx => h x (List.mem_cons_of_mem _ hx)
    simp only [allN, List.flatMap_cons, List.length_append, List.length_cons] at h2 ⊢
    omega
noncomputable def routesE (n : Int) (l : List Edg) (ts : List Truck) (ns : List Need) (hd : Int) : List Rt → Int
  | [] => 0
  | r :: rs => if walkE n l ts ns hd r.trk r.nd.l ≠ 0 then walkE n l ts ns hd r.trk r.nd.l else routesE n l ts ns hd rs
def goodAll (k : Nat) (a : List Int) : Bool := decide (∀ i ∈ a, 0 ≤ i ∧ i < (k : Int)) && decide (a.length = k)
noncomputable def planErr (n : Int) (l : List Edg) (ts : List Truck) (ns : List Need) (hd : Int) (rs : List Rt) (left : List Int) : Int :=
  if nightErr n l ts ns hd ≠ 0 then nightErr n l ts ns hd else if routesE n l ts ns hd rs ≠ 0 then routesE n l ts ns hd rs
  else if (twiceB (rs.map (·.trk)) || twiceB (allN rs ++ left)) = true then 6 else if goodAll ns.length (allN rs ++ left) = true then (if sortedB left = true then 0 else 9) else 7
section
variable {n : Int} {l : List Edg} {ts : List Truck} {ns : List Need} {hd : Int}
theorem routesE_drop {rs : List Rt} : ∀ {j : Nat}, j ≤ rs.length → (∀ i (hi : i < rs.length), i < j → walkE n l ts ns hd rs[i].trk rs[i].nd.l = 0) → routesE n l ts ns hd rs = routesE n l ts ns hd (rs.drop j)
  | 0, _, _ => rfl
  | j + 1, hj, h => by
    rw [routesE_drop (j := j) (by omega) (fun i hi hij => h i hi (by omega)), List.drop_eq_getElem_cons (show j < rs.length by omega), routesE]
    have := h j (by omega) (by omega)
    simp [this]
theorem routesE_all {rs : List Rt} (h : ∀ i (hi : i < rs.length), walkE n l ts ns hd rs[i].trk rs[i].nd.l = 0) : routesE n l ts ns hd rs = 0 := by
  rw [routesE_drop (Nat.le_refl _) (fun i hi _ => h i hi)]; simp [routesE]
theorem routesE_at {rs : List Rt} {j : Nat} (hj : j < rs.length) (h : ∀ i (hi : i < rs.length), i < j → walkE n l ts ns hd rs[i].trk rs[i].nd.l = 0) (he : walkE n l ts ns hd rs[j].trk rs[j].nd.l ≠ 0) : routesE n l ts ns hd rs = walkE n l ts ns hd rs[j].trk rs[j].nd.l := by
  rw [routesE_drop (by omega) h, List.drop_eq_getElem_cons hj, routesE, if_pos he]
theorem walkE_route {rt : Int} {rn : List Int} (h : walkE n l ts ns hd rt rn = 0) : nightErr n l ts ns hd = 0 ∧ routeErr ts ns rt rn = 0 := by
  unfold walkE at h
  split at h
  · rename_i h1; exact absurd h h1
  · rename_i h1
    split at h
    · rename_i h2; exact absurd h h2
    · rename_i h2; exact ⟨by simpa using h1, by simpa using h2⟩
end
theorem nodup_sub {a b : List Int} (h : a.Nodup) (hs : ∀ x ∈ a, x ∈ b) : a.length ≤ b.length := List.Nodup.length_le_of_subset h hs
def upto (k : Nat) : List Int := (List.range k).map fun i : Nat => (i : Int)
theorem upto_len (k : Nat) : (upto k).length = k := by simp [upto]
theorem upto_mem {k : Nat} {x : Int} : x ∈ upto k ↔ 0 ≤ x ∧ x < (k : Int) := by
  unfold upto
  rw [List.mem_map]
  constructor
  · rintro ⟨i, hi, rfl⟩; have := List.mem_range.1 hi; omega
  · intro h; exact ⟨x.toNat, List.mem_range.2 (by omega), by omega⟩
theorem upto_nodup (k : Nat) : (upto k).Nodup := by
  unfold upto
  rw [List.nodup_iff_pairwise_ne, List.pairwise_map]
  exact List.Pairwise.imp (fun h he => h (by omega)) (List.nodup_iff_pairwise_ne.1 (List.nodup_range (n := k)))
theorem good_prog {k : Nat} {a : List Int} (hn : a.Nodup) : goodAll k a = true ↔ (∀ i : Nat, i < k → (i : Int) ∈ a) ∧ a.length ≤ k := by
  simp only [goodAll, Bool.and_eq_true, decide_eq_true_eq]
  constructor
  · rintro ⟨h1, h2⟩
    refine ⟨fun i hi => Classical.byContradiction fun hc => ?_, by omega⟩
    have h3 := nodup_sub (a := (i : Int) :: a) (b := upto k) (List.nodup_cons.2 ⟨hc, hn⟩) (fun x hx => by
      rcases List.mem_cons.1 hx with rfl | hx
      · exact upto_mem.2 (by omega)
      · exact upto_mem.2 (h1 x hx))
    rw [upto_len, List.length_cons] at h3; omega
  · rintro ⟨h1, h2⟩
    have hsub : ∀ x ∈ upto k, x ∈ a := fun x hx => by
      have h3 := upto_mem.1 hx
      obtain ⟨i, rfl⟩ := Int.eq_ofNat_of_zero_le h3.1
      exact h1 i (by omega)
    have h4 := nodup_sub (upto_nodup k) hsub
    rw [upto_len] at h4
    refine ⟨fun i hi => Classical.byContradiction fun hc => ?_, by omega⟩
    have h3 := nodup_sub (a := i :: upto k) (b := a) (List.nodup_cons.2 ⟨fun h => hc (upto_mem.1 h), upto_nodup k⟩) (fun x hx => by
      rcases List.mem_cons.1 hx with rfl | hx
      · exact hi
      · exact hsub x hx)
    rw [List.length_cons, upto_len] at h3; omega
theorem good_ref {k : Nat} {a b : List Int} (hn : (a ++ b).Nodup) (ha : ∀ i ∈ a, 0 ≤ i ∧ i < (k : Int)) : goodAll k (a ++ b) = true ↔ (∀ i ∈ b, 0 ≤ i ∧ i < (k : Int)) ∧ k ≤ (a ++ b).length := by
  simp only [goodAll, Bool.and_eq_true, decide_eq_true_eq]
  constructor
  · rintro ⟨h1, h2⟩
    exact ⟨fun i hi => h1 i (List.mem_append_right _ hi), by omega⟩
  · rintro ⟨h1, h2⟩
    have h3 : ∀ i ∈ a ++ b, 0 ≤ i ∧ i < (k : Int) := fun i hi => by
      rcases List.mem_append.1 hi with h | h
      · exact ha i h
      · exact h1 i h
    exact ⟨h3, Nat.le_antisymm (nodup_len hn h3) h2⟩
end Go.Proofs.Ytcgicnfjcndedaa
