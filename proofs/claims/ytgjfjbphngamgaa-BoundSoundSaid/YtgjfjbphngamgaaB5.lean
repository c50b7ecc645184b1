/-
  Walk: Find, numbers.
-/
import Derived.Test.YtgjfjbphngamgaaB4
set_option linter.all false
namespace Go.Proofs.Ytgjfjbphngamgaa
open Go Go.W Go.RowKit

theorem timL_at {m : Nat} {l : List Edg} {ns : List Need} {j k : Nat} {x : Int} (h : Flo.tmAt (timL m l ns) j k = some x) : ∃ (hj : j < (colN ns).length) (hk : k < (briN ns).length), x = roadT m l (colN ns)[j].node.toNat (briN ns)[k].node.toNat := by
  unfold Flo.tmAt timL at h
  rw [List.getElem?_map] at h
  cases hj : (colN ns)[j]? with
  | none => rw [hj] at h; simp at h
  | some a =>
    rw [hj] at h
    simp only [Option.map_some, Option.bind_some, List.getElem?_map] at h
    cases hk : (briN ns)[k]? with
    | none => rw [hk] at h; simp at h
    | some b =>
      rw [hk] at h
      simp at h
      obtain ⟨h1, h2⟩ := List.getElem?_eq_some_iff.1 hj
      obtain ⟨h3, h4⟩ := List.getElem?_eq_some_iff.1 hk
      exact ⟨h1, h3, by rw [← h, h2, h4]⟩
theorem timL_some {m : Nat} {l : List Edg} {ns : List Need} {j k : Nat} (hj : j < (colN ns).length) (hk : k < (briN ns).length) : Flo.tmAt (timL m l ns) j k = some (roadT m l (colN ns)[j].node.toNat (briN ns)[k].node.toNat) := by
  unfold Flo.tmAt timL
  simp [hj, hk]
theorem trans_ok {m : Nat} {l : List Edg} {ts : List Truck} {ns : List Need} {hd : Int} (hK : NightOk m l ts ns hd) : Flo.Trans (movC ns) (movD ns) (timL m l ns) := by
  have hl1 : (colN ns).length ≤ ns.length := List.length_filter_le _ _
  have hl2 : (briN ns).length ≤ ns.length := List.length_filter_le _ _
  have hnl := hK.nl
  have hcl : (movC ns).length = (colN ns).length := by simp [movC]
  have hdl : (movD ns).length = (briN ns).length := by simp [movD]
  have hdb : ∀ d ∈ movD ns, 1 ≤ d ∧ d ≤ 32 := fun d hd => by
    obtain ⟨y, hy, rfl⟩ := List.mem_map.1 hd
    obtain ⟨h1, h2⟩ := List.mem_filter.1 hy
    have := hK.nd y h1
    simp at h2; omega
  refine ⟨⟨by simp [timL, movC], fun j k x hx => ?_, fun d hd => by have := hdb d hd; omega⟩, fun c hc => ?_, hdb, by omega, by omega, fun j k x hx => ?_, fun j k hj hk => ⟨_, timL_some (by omega) (by omega)⟩⟩
  · obtain ⟨h1, h2, _⟩ := timL_at hx; omega
  · obtain ⟨y, hy, rfl⟩ := List.mem_map.1 hc
    obtain ⟨h1, h2⟩ := List.mem_filter.1 hy
    have := hK.nd y h1
    simp at h2; omega
  · obtain ⟨h1, h2, rfl⟩ := timL_at hx
    have a1 := hK.nd (colN ns)[j] (List.mem_filter.1 (List.getElem_mem h1)).1
    have a2 := hK.nd (briN ns)[k] (List.mem_filter.1 (List.getElem_mem h2)).1
    exact roadT_bd hK.road (by omega) (by omega)
theorem task_ok {m : Nat} {l : List Edg} {ts : List Truck} {ns : List Need} {hd : Int} {rs : List (SlA Int)} (hK : NightOk m l ts ns hd) (hr : rs.map (·.l) = timL m l ns) : TaskOk (colN ns) (briN ns) rs := by
  have hl1 : (colN ns).length ≤ ns.length := List.length_filter_le _ _
  have hl2 : (briN ns).length ≤ ns.length := List.length_filter_le _ _
  have hnl := hK.nl
  refine ⟨by omega, by omega, ?_, fun r h => ?_, fun x hx => ?_, fun x hx => ?_⟩
  · have := congrArg List.length hr
    simpa [timL] using this
  · have : r.l ∈ timL m l ns := by rw [← hr]; exact List.mem_map_of_mem h
    obtain ⟨y, _, hy⟩ := List.mem_map.1 this
    rw [← hy]; simp
  · have := hK.nd x (List.mem_filter.1 hx).1; omega
  · have := hK.nd x (List.mem_filter.1 hx).1; omega
theorem capL_bd {m : Nat} {l : List Edg} {ts : List Truck} {ns : List Need} {hd : Int} (hK : NightOk m l ts ns hd) : 0 ≤ capL ts ∧ capL ts ≤ 32 := by
  have h : ∀ j, j ≤ ts.length → 0 ≤ capL (ts.take j) ∧ capL (ts.take j) ≤ 32 := fun j => by
    induction j with
    | zero => intro _; simp [capL]
    | succ j ih =>
      intro hj
      have := ih (by omega)
      have := hK.tr ts[j] (List.getElem_mem (by omega))
      rw [capL_take (show j < ts.length by omega)]
      split <;> omega
  have := h ts.length (Nat.le_refl _)
  rwa [List.take_length] at this
open Classical in
noncomputable def solveErr (cp : Int) (C D : List Int) (tm : List (List Int)) : Int := if emptyB cp C.sum D.sum = true then 10 else if Flo.Hall C D tm then 0 else 15
theorem boundSolveU {C D : List Int} {tm : List (List Int)} (Ac Ab At : Option Addr) (cs bs : List Need) (rs : List (SlA Int)) (kc kb kt : Nat) (cp : Int) (w0 : World) (hT : TaskAt w0 Ac Ab At cs bs rs) (hK : TaskOk cs bs rs) (hC : C = cs.map (·.move)) (hD : D = bs.map fun x => -x.move) (htm : tm = rs.map (·.l)) (hX : Flo.Trans C D tm) (hcp : 0 ≤ cp ∧ cp ≤ 32) :
    Calls Try.prog 21 #[.agg (tskC Ac Ab At cs.length bs.length rs.length kc kb kt cp C.sum D.sum).toArray] w0 fun e w' => ∃ (s b : Int) (us vs : List Int) (AU AV : Option Addr) (cu cv : Nat) (L : List Blk),
      e = .returned (.tuple #[.agg (bndL s b AU us.length cu AV vs.length cv).toArray, I (solveErr cp C D tm)]) ∧ (solveErr cp C D tm ≠ 0 → s = 0 ∧ b = 0 ∧ us = [] ∧ vs = []) ∧ (solveErr cp C D tm = 0 → ∃ T, Flo.Solved C D tm us vs T ∧ s = divI T cp ∧ b = D.sum ∧ 1 ≤ cp) ∧ Reads L (fun w => IntsAt w AU us ∧ IntsAt w AV vs) ∧ SH w0 [] w' L :=
  (boundSolve Ac Ab At cs bs rs kc kb kt cp w0 hT hK hC hD htm hX hcp).mono fun e w' ⟨h1, h2, h3⟩ => by
    cases he : emptyB cp C.sum D.sum with
    | true =>
      obtain ⟨rfl, hb⟩ := h1 he
      have hs : solveErr cp C D tm = 10 := by rw [solveErr, if_pos he]
      exact ⟨0, 0, [], [], none, none, 0, 0, [], by rw [hs]; rfl, fun _ => ⟨rfl, rfl, rfl, rfl⟩, (fun h => by rw [hs] at h; cases h), fun _ _ _ _ => ⟨OnesAt.nil, OnesAt.nil⟩, (SH.refl w0).toBelow hb⟩
    | false =>
      by_cases hH : Flo.Hall C D tm
      · obtain ⟨us, vs, T, AU, AV, cu, cv, L, g1, rfl, g2, g3⟩ := h3 he hH
        have hs : solveErr cp C D tm = 0 := by rw [solveErr, if_neg (by rw [he]; simp), if_pos hH]
        refine ⟨divI T cp, D.sum, us, vs, AU, AV, cu, cv, L, by rw [hs], fun h => absurd hs h, fun _ => ⟨T, g1, rfl, rfl, ?_⟩, g2, g3⟩
        simp [emptyB] at he; omega
      · obtain ⟨rfl, hb⟩ := h2 he hH
        have hs : solveErr cp C D tm = 15 := by rw [solveErr, if_neg (by rw [he]; simp), if_neg hH]
        exact ⟨0, 0, [], [], none, none, 0, 0, [], by rw [hs]; rfl, fun _ => ⟨rfl, rfl, rfl, rfl⟩, (fun h => by rw [hs] at h; cases h), fun _ _ _ _ => ⟨OnesAt.nil, OnesAt.nil⟩, (SH.refl w0).toBelow hb⟩
/-- the error of Find -/
noncomputable def findErr (n : Int) (l : List Edg) (ts : List Truck) (ns : List Need) (hd : Int) : Int := if nightErr n l ts ns hd ≠ 0 then nightErr n l ts ns hd else solveErr (capL ts) (movC ns) (movD ns) (timL n.toNat l ns)
/-- what Find returns -/
structure FindRet (n : Int) (l : List Edg) (ts : List Truck) (ns : List Need) (hd s b : Int) (us vs : List Int) : Prop where
  bad : findErr n l ts ns hd ≠ 0 → s = 0 ∧ b = 0 ∧ us = [] ∧ vs = []
  good : findErr n l ts ns hd = 0 → ∃ (m : Nat) (T : Int), n = m ∧ NightOk m l ts ns hd ∧ Flo.Solved (movC ns) (movD ns) (timL m l ns) us vs T ∧ s = divI T (capL ts) ∧ b = (movD ns).sum ∧ 1 ≤ capL ts
set_option maxHeartbeats 1000000 in
theorem boundFind (n hd : Int) (A B C : Option Addr) (l : List Edg) (ts : List Truck) (ns : List Need) (ca cb cc : Nat) (w0 : World) (hN : NightAt w0 A B C l ts ns cc) :
    Calls Try.prog 11 #[.agg #[I n, .slice A l.length ca, .slice B ts.length cb, .slice C ns.length cc, I hd]] w0 fun e w' => ∃ (s b : Int) (us vs : List Int) (AU AV : Option Addr) (cu cv : Nat) (L : List Blk),
      e = .returned (.tuple #[.agg (bndL s b AU us.length cu AV vs.length cv).toArray, I (findErr n l ts ns hd)]) ∧ FindRet n l ts ns hd s b us vs ∧ Reads L (fun w => IntsAt w AU us ∧ IntsAt w AV vs) ∧ SH w0 [] w' L := by
  have H := SH.refl w0
  by_cases h0 : nightErr n l ts ns hd = 0
  · obtain ⟨m, rfl, hK⟩ := nightOk_of h0
    have hX := trans_ok hK
    have hcb := capL_bd hK
    have hfe : findErr m l ts ns hd = solveErr (capL ts) (movC ns) (movD ns) (timL m l ns) := by rw [findErr, if_neg (by simp [h0])]; simp
    refine Calls.ofWPc Try.func11 rfl Try.results11 Try.ntmps11 rfl ?_
    refine WP.seq ?_
    refine WP.region ?_
    refine OPS.box rfl rfl rfl rfl (cA rfl) H ?_
    clear H; intro g1 w H
    refine OPS.alloc rfl rfl rfl rfl (zero_run rfl) rfl H ?_
    clear H; intro g2 w H
    refine OPS.val rfl rfl rfl (Ev.asI rfl) ?_
    refine OPS.nil ?_
    refine WP.seq ?_
    refine WP.region ?_
    refine OPS.val rfl rfl rfl ((by exact Ev.loadO 1 H rfl (agg_run rfl) (size_run rfl) (by rfl) rfl)) ?_
    refine OPS.call (d := some 8) rfl rfl rfl (EvC.func (fun_run rfl)) (Calls.mono (boundRead m hd A B C l ts ns ca cb cc w (hN.sh H)) fun _ _ h => h.2 h0) ?_
    rintro _ w ⟨m2, Ac, Ab, At, rs, kc, kb, kt, LT, hm2, hrs, hT, rfl, Hc⟩
    refine ⟨_, rfl, ?_⟩
    replace H := SH.call (Lv := []) (by rw [List.append_nil]; exact H) Hc
    clear Hc
    obtain rfl : m = m2 := by omega
    have hTK := task_ok hK hrs
    refine OPS.val rfl rfl rfl (Ev.mvT rfl) ?_
    refine OPS.val rfl rfl rfl (Ev.extract rfl rfl) ?_
    refine OPS.val rfl rfl rfl (Ev.extract rfl rfl) ?_
    refine OPS.alloc rfl rfl rfl rfl (zero_run rfl) rfl H ?_
    clear H; intro g4 w H
    refine OPS.store 0 _ rfl rfl rfl (size_run rfl) rfl (cA rfl) rfl rfl H rfl (by simp) ?_
    clear H; intro w H; try simp only [List.set_cons_zero, List.set_cons_succ, putL, Nat.zero_add] at H
    refine OPS.val rfl rfl rfl (Ev.asI rfl) ?_
    refine OPS.nil ?_
    refine WP.seq ?_
    refine WP.seq ?_
    refine WP.region ?_
    refine OPS.val rfl rfl rfl (Ev.mvI rfl) ?_
    refine OPS.val rfl rfl rfl (Ev.neq rfl rfl) ?_
    refine OPS.nil ?_
    refine WP.cond rfl (fun hc2 => ?_) (fun hc2 => ?_)
    · refine WP.seq ?_
      refine WP.region ?_
      refine OPS.val rfl rfl rfl (Ev.build (bld_33_ (e := fun _ => .int .i64 0))) ?_
      refine OPS.val rfl rfl rfl (Ev.mvI rfl) ?_
      refine OPS.store 1 _ rfl rfl rfl (size_run rfl) rfl (cA rfl) rfl rfl H rfl (by simp) ?_
      clear H; intro w H; try simp only [List.set_cons_zero, List.set_cons_succ, putL, Nat.zero_add] at H
      refine OPS.val rfl rfl rfl (Ev.asI rfl) ?_
      refine OPS.nil ?_
      refine WP.ret ⟨[_, _], ⟨(by exact resCellA 1 H rfl (agg_run rfl) (size_run rfl) (by rfl) rfl), rfl, trivial⟩, ?_⟩
      exact absurd hc2 (by decide)
    refine WP.skip ?_
    refine WP.seq ?_
    simp only [List.cons_append, List.nil_append] at H
    refine WP.region ?_
    refine OPS.val rfl rfl rfl ((by exact Ev.loadO 0 H rfl (agg_run rfl) (size_run rfl) (by rfl) rfl)) ?_
    refine OPS.call (d := some 16) rfl rfl rfl (EvC.func (fun_run rfl)) (boundSolveU (C := movC ns) (D := movD ns) (tm := timL m l ns) Ac Ab At (colN ns) (briN ns) rs kc kb kt (capL ts) w (hT.at H (List.sublist_append_right [_, _, _] _)) hTK rfl rfl hrs.symm hX hcb) ?_
    rintro _ w ⟨s, b, us, vs, AU, AV, cu, cv, L, rfl, hbad, hgood, hrd, Hc⟩
    refine ⟨_, rfl, ?_⟩
    replace H := SH.call (Lv := []) (by rw [List.append_nil]; exact H) Hc
    clear Hc
    simp only [List.cons_append, List.nil_append] at H
    rw [← hfe]
    refine OPS.val rfl rfl rfl (Ev.extract rfl rfl) ?_
    refine OPS.val rfl rfl rfl (Ev.extract rfl rfl) ?_
    refine OPS.store 1 _ rfl rfl rfl (size_run rfl) rfl (cA rfl) rfl rfl H rfl (by simp) ?_
    clear H; intro w H; try simp only [List.set_cons_zero, List.set_cons_succ, putL, Nat.zero_add] at H
    refine OPS.val rfl rfl rfl (Ev.asI rfl) ?_
    refine OPS.nil ?_
    refine WP.ret ⟨[_, _], ⟨(by exact resCellA 1 H rfl (agg_run rfl) (size_run rfl) (by rfl) rfl), rfl, trivial⟩, ?_⟩
    refine ⟨s, b, us, vs, AU, AV, cu, cv, L, rfl, ⟨fun h => hbad (by rw [← hfe]; exact h), fun h => ?_⟩, hrd, ?_⟩
    · obtain ⟨T, q1, q2, q3, q4⟩ := hgood (by rw [← hfe]; exact h)
      exact ⟨m, T, rfl, hK, q1, q2, q3, q4⟩
    · exact H.drop (List.Sublist.cons _ (List.Sublist.cons _ (List.Sublist.cons _ (List.sublist_append_right LT L))))
  · have hfe : findErr n l ts ns hd = nightErr n l ts ns hd := by rw [findErr, if_pos h0]
    have h0' := h0
    refine Calls.ofWPc Try.func11 rfl Try.results11 Try.ntmps11 rfl ?_
    refine WP.seq ?_
    refine WP.region ?_
    refine OPS.box rfl rfl rfl rfl (cA rfl) H ?_
    clear H; intro g1 w H
    refine OPS.alloc rfl rfl rfl rfl (zero_run rfl) rfl H ?_
    clear H; intro g2 w H
    refine OPS.val rfl rfl rfl (Ev.asI rfl) ?_
    refine OPS.nil ?_
    refine WP.seq ?_
    refine WP.region ?_
    refine OPS.val rfl rfl rfl ((by exact Ev.loadO 1 H rfl (agg_run rfl) (size_run rfl) (by rfl) rfl)) ?_
    refine OPS.call (d := some 8) rfl rfl rfl (EvC.func (fun_run rfl)) (Calls.mono (boundRead n hd A B C l ts ns ca cb cc w (hN.sh H)) fun _ _ h => h.1 h0) ?_
    rintro _ w ⟨rfl, hb⟩
    refine ⟨_, rfl, ?_⟩
    replace H := H.toBelow hb; clear hb
    refine OPS.val rfl rfl rfl (Ev.mvT rfl) ?_
    refine OPS.val rfl rfl rfl (Ev.extract rfl rfl) ?_
    refine OPS.val rfl rfl rfl (Ev.extract rfl rfl) ?_
    refine OPS.alloc rfl rfl rfl rfl (zero_run rfl) rfl H ?_
    clear H; intro g4 w H
    refine OPS.store 0 _ rfl rfl rfl (size_run rfl) rfl (cA rfl) rfl rfl H rfl (by simp) ?_
    clear H; intro w H; try simp only [List.set_cons_zero, List.set_cons_succ, putL, Nat.zero_add] at H
    refine OPS.val rfl rfl rfl (Ev.asI rfl) ?_
    refine OPS.nil ?_
    refine WP.seq ?_
    refine WP.seq ?_
    refine WP.region ?_
    refine OPS.val rfl rfl rfl (Ev.mvI rfl) ?_
    refine OPS.val rfl rfl rfl (Ev.neq rfl rfl) ?_
    refine OPS.nil ?_
    refine WP.cond rfl (fun hc2 => ?_) (fun hc2 => ?_)
    · refine WP.seq ?_
      refine WP.region ?_
      refine OPS.val rfl rfl rfl (Ev.build (bld_33_ (e := fun _ => .int .i64 0))) ?_
      refine OPS.val rfl rfl rfl (Ev.mvI rfl) ?_
      refine OPS.store 1 _ rfl rfl rfl (size_run rfl) rfl (cA rfl) rfl rfl H rfl (by simp) ?_
      clear H; intro w H; try simp only [List.set_cons_zero, List.set_cons_succ, putL, Nat.zero_add] at H
      refine OPS.val rfl rfl rfl (Ev.asI rfl) ?_
      refine OPS.nil ?_
      refine WP.ret ⟨[_, _], ⟨(by exact resCellA 1 H rfl (agg_run rfl) (size_run rfl) (by rfl) rfl), rfl, trivial⟩, ?_⟩
      exact ⟨0, 0, [], [], none, none, 0, 0, [], by rw [hfe]; rfl, ⟨fun _ => ⟨rfl, rfl, rfl, rfl⟩, fun h => absurd (hfe ▸ h) h0⟩, fun _ _ _ _ => ⟨OnesAt.nil, OnesAt.nil⟩, H.drop (List.nil_sublist _)⟩
    refine WP.skip ?_
    refine WP.seq ?_
    exact absurd hc2 (by simp [h0])
end Go.Proofs.Ytgjfjbphngamgaa
