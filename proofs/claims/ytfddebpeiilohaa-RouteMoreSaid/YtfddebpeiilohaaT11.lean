/-
  Walk: walk.
-/
import Derived.Test.YtfddebpeiilohaaT10
set_option linter.all false
namespace Go.Proofs.Ytfddebpeiilohaa
open Go Go.W Go.RowKit

section
variable (D : Nat → Nat → Int) (cap hd : Int) (ns : List Need)
def needAt (i : Int) : Need := ns.getD i.toNat default
def goD (i : Int) (s : TS) : Int := D s.at_ (needAt ns i).node.toNat
def goT : List Int → TS → TS
  | [], s => s
  | i :: r, s => goT r (visitT (goD D ns i s) hd (needAt ns i) s)
def goE : List Int → TS → Int
  | [], _ => 0
  | i :: r, s => if visitE (goD D ns i s) cap (needAt ns i) s ≠ 0 then visitE (goD D ns i s) cap (needAt ns i) s else goE r (visitT (goD D ns i s) hd (needAt ns i) s)
def goV : List Int → TS → List Vis
  | [], _ => []
  | i :: r, s => visitV (goD D ns i s) hd i (needAt ns i) s :: goV r (visitT (goD D ns i s) hd (needAt ns i) s)
theorem goT_app : ∀ (a b : List Int) (s : TS), goT D hd ns (a ++ b) s = goT D hd ns b (goT D hd ns a s)
  | [], _, _ => rfl
  | _ :: a, b, s => goT_app a b _
theorem goV_app : ∀ (a b : List Int) (s : TS), goV D hd ns (a ++ b) s = goV D hd ns a s ++ goV D hd ns b (goT D hd ns a s)
  | [], _, _ => rfl
  | _ :: a, b, s => congrArg (_ :: ·) (goV_app a b _)
theorem goE_app : ∀ (a b : List Int) (s : TS), goE D cap hd ns (a ++ b) s = if goE D cap hd ns a s ≠ 0 then goE D cap hd ns a s else goE D cap hd ns b (goT D hd ns a s)
  | [], b, s => by simp [goE, goT]
  | i :: a, b, s => by
    have h := goE_app a b (visitT (goD D ns i s) hd (needAt ns i) s)
    show (if visitE (goD D ns i s) cap (needAt ns i) s ≠ 0 then visitE (goD D ns i s) cap (needAt ns i) s else goE D cap hd ns (a ++ b) (visitT (goD D ns i s) hd (needAt ns i) s)) = _
    rw [h]
    simp only [goE, goT]
    by_cases hv : visitE (goD D ns i s) cap (needAt ns i) s = 0
    · simp [hv]
    · simp [hv]
theorem goV_len : ∀ (a : List Int) (s : TS), (goV D hd ns a s).length = a.length
  | [], _ => rfl
  | _ :: a, s => congrArg (· + 1) (goV_len a _)
end
def startT (t : Truck) : TS := ⟨t.depot.toNat, t.from_, 0, 0⟩
def outB (k i : Int) : Bool := !inB i 0 (k - 1)
def routeErr (ts : List Truck) (ns : List Need) (rt : Int) (rn : List Int) : Int :=
  if outB ts.length rt = true ∨ rn.any (outB ns.length) = true then 7 else if twiceB rn = true then 6 else 0
noncomputable def roadD (n : Int) (l : List Edg) (a v : Nat) : Int := roadT n.toNat l a v
noncomputable def endT (n : Int) (l : List Edg) (ts : List Truck) (ns : List Need) (hd : Int) (rt : Int) (rn : List Int) : TS :=
  goT (roadD n l) hd ns rn (startT (ts.getD rt.toNat default))
noncomputable def walkE (n : Int) (l : List Edg) (ts : List Truck) (ns : List Need) (hd : Int) (rt : Int) (rn : List Int) : Int :=
  if nightErr n l ts ns hd ≠ 0 then nightErr n l ts ns hd else if routeErr ts ns rt rn ≠ 0 then routeErr ts ns rt rn
  else if goE (roadD n l) (ts.getD rt.toNat default).cap hd ns rn (startT (ts.getD rt.toNat default)) ≠ 0 then goE (roadD n l) (ts.getD rt.toNat default).cap hd ns rn (startT (ts.getD rt.toNat default))
  else homeE (roadD n l (endT n l ts ns hd rt rn).at_ (ts.getD rt.toNat default).depot.toNat) hd (ts.getD rt.toNat default) (endT n l ts ns hd rt rn)
noncomputable def walkT (n : Int) (l : List Edg) (ts : List Truck) (ns : List Need) (hd : Int) (rt : Int) (rn : List Int) : TS :=
  homeT (roadD n l (endT n l ts ns hd rt rn).at_ (ts.getD rt.toNat default).depot.toNat) hd (ts.getD rt.toNat default) (endT n l ts ns hd rt rn)
noncomputable def walkV (n : Int) (l : List Edg) (ts : List Truck) (ns : List Need) (hd : Int) (rt : Int) (rn : List Int) : List Vis :=
  goV (roadD n l) hd ns rn (startT (ts.getD rt.toNat default))

/-- what a good night gives -/
structure NightOk (m : Nat) (l : List Edg) (ts : List Truck) (ns : List Need) (hd : Int) : Prop where
  road : RoadOk m l
  tl : ts.length ≤ 8
  nl : ns.length ≤ 16
  tr : ∀ t ∈ ts, (0 ≤ t.depot ∧ t.depot < m) ∧ (1 ≤ t.cap ∧ t.cap ≤ 32) ∧ 0 ≤ t.from_ ∧ t.from_ ≤ t.to_ ∧ t.to_ ≤ 86400
  nd : ∀ x ∈ ns, (0 ≤ x.node ∧ x.node < m) ∧ x.move ≠ 0 ∧ -32 ≤ x.move ∧ x.move ≤ 32
  hh : 0 ≤ hd ∧ hd ≤ 3600
  one : (ns.map (·.node)).Nodup
theorem nightOk_of {n : Int} {l : List Edg} {ts : List Truck} {ns : List Need} {hd : Int} (h : nightErr n l ts ns hd = 0) : ∃ m : Nat, n = m ∧ NightOk m l ts ns hd := by
  unfold nightErr at h
  split at h
  · rename_i h1; exact absurd h h1
  · rename_i h1
    obtain ⟨m, rfl, hok⟩ := roadOk_of (by simpa using h1)
    split at h
    · cases h
    · rename_i h2
      split at h
      · rename_i h3; exact absurd h h3
      · rename_i h3
        split at h
        · rename_i h4; exact absurd h h4
        · rename_i h4
          split at h
          · cases h
          · rename_i h5
            split at h
            · rename_i h6
              have h2' : ts.length ≤ 8 ∧ ns.length ≤ 16 := by simp [fullB] at h2; omega
              refine ⟨m, rfl, hok, h2'.1, h2'.2, fun t ht => ?_, fun x hx => ?_, by simpa [inB] using h6, ?_⟩
              · have := trucksErr_ok (by simpa using h3) t ht
                simp [truckBad, truckRange, inB] at this
                omega
              · have := needsErr_ok (by simpa using h4) x hx
                simp [needBad, needRange, inB] at this
                omega
              · simpa [needTwice, twiceB] using h5
            · cases h
/-- numbers of a range, none twice -/
theorem nodup_len {rn : List Int} {N : Nat} (h1 : rn.Nodup) (h2 : ∀ i ∈ rn, 0 ≤ i ∧ i < N) : rn.length ≤ N := by
  have h3 : (rn.map Int.toNat).Nodup := by
    rw [List.nodup_iff_pairwise_ne, List.pairwise_map]
    refine List.Pairwise.imp_of_mem ?_ (List.nodup_iff_pairwise_ne.1 h1)
    intro a b ha hb hne he
    have := h2 a ha
    have := h2 b hb
    omega
  have h4 : (rn.map Int.toNat).length ≤ (List.range N).length := by
    refine List.Nodup.length_le_of_subset h3 (fun x hx => ?_)
    obtain ⟨i, hi, rfl⟩ := List.mem_map.1 hx
    have := h2 i hi
    simp; omega
  simpa using h4
theorem routeOk_of {ts : List Truck} {ns : List Need} {rt : Int} {rn : List Int} (h : routeErr ts ns rt rn = 0) : (0 ≤ rt ∧ rt < ts.length) ∧ (∀ i ∈ rn, 0 ≤ i ∧ i < ns.length) ∧ rn.Nodup ∧ rn.length ≤ ns.length := by
  unfold routeErr at h
  split at h
  · cases h
  · rename_i h1
    split at h
    · cases h
    · rename_i h2
      have h3 : rn.Nodup := by simpa [twiceB] using h2
      have h4 : ∀ i ∈ rn, 0 ≤ i ∧ i < ns.length := fun i hi => by
        have h5 : outB ns.length i = false := by
          cases hc : outB ns.length i with
          | true => exact absurd (Or.inr (List.any_eq_true.2 ⟨i, hi, hc⟩)) h1
          | false => rfl
        simp [outB, inB] at h5; omega
      refine ⟨?_, h4, h3, nodup_len h3 h4⟩
      have h5 : outB ts.length rt = false := by
        cases hc : outB ts.length rt with
        | true => exact absurd (Or.inl hc) h1
        | false => rfl
      simp [outB, inB] at h5; omega
/-- the state after some visits stays within bounds -/
structure TSOk (m : Nat) (cap : Int) (j : Nat) (s : TS) : Prop where
  at_ : s.at_ < m
  now : 0 ≤ s.now ∧ s.now ≤ 86400 + 200000 * j
  driven : 0 ≤ s.driven ∧ s.driven ≤ 64000 * j
  load : 0 ≤ s.load ∧ s.load ≤ cap
end Go.Proofs.Ytfddebpeiilohaa
