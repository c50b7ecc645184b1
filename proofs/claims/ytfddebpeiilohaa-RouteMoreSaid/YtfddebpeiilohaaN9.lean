/-
  Walk: try of the reference's search, one step (what it calls itself for is taken as known).
-/
import Derived.Test.YtfddebpeiilohaaP2
import Derived.Test.YtfddebpeiilohaaK7
set_option linter.all false
namespace Go.Proofs.Ytfddebpeiilohaa
open Go Go.W Go.RowKit

/-- the cells that tell the best so far -/
def StOk (n : Int) (l : List Edg) (ts : List Truck) (ns : List Need) (hd rt : Int) (s : Option (List Int)) (fd : Bool) (xl : Nat) (mv sc : Int) : Prop :=
  match s with
  | none => fd = false
  | some x => fd = true ∧ xl = x.length ∧ mv = mvL ns x ∧ sc = secsD n l ts ns hd rt x
/-- the list of the best: that of the start, or one of these blocks -/
def Kept (s s' : Option (List Int)) (X X' : Option Addr) (L : List Blk) : Prop :=
  (s' = s ∧ X' = X) ∨ ∀ x, s' = some x → Reads L (fun w => IntsAt w X' x)
theorem TabAt.below {w w' : World} {T : Option Addr} {m : Nat} {l : List Edg} {nodes : List Nat} (h : TabAt w T m l nodes) (hb : Below w.heap.size w w') : TabAt w' T m l nodes := by
  obtain ⟨ds, h1, h2, h3⟩ := h
  exact ⟨ds, h1, h2.below hb, fun i h4 h5 => (h3 i h4 h5).below hb⟩
theorem Kept.read {s s' : Option (List Int)} {X X' : Option Addr} {L L' : List Blk} {w0 w : World} (h : Kept s s' X X' L) (hX : ∀ x, s = some x → IntsAt w0 X x) (H : SH w0 [] w L') (hs : L.Sublist L') : ∀ x, s' = some x → IntsAt w X' x := fun x hx => by
  rcases h with ⟨rfl, rfl⟩ | h
  · exact (hX x hx).sh H
  · exact (h x hx).at H hs
theorem Kept.more {s s' : Option (List Int)} {X X' : Option Addr} {L L' : List Blk} (h : Kept s s' X X' L) (hs : L.Sublist L') : Kept s s' X X' L' := by
  rcases h with h | h
  · exact .inl h
  · exact .inr fun x hx _ _ _ H => h x hx _ _ _ (H.drop hs)
/-- over a call -/
theorem Kept.step {s s1 s2 : Option (List Int)} {X X1 X2 : Option Addr} {L1 L2 : List Blk} (h1 : Kept s s1 X X1 L1) (h2 : Kept s1 s2 X1 X2 L2) : Kept s s2 X X2 (L1 ++ L2) := by
  rcases h2 with ⟨rfl, rfl⟩ | h2
  · exact h1.more (List.sublist_append_left _ _)
  · exact .inr fun x hx _ _ _ H => h2 x hx _ _ _ (H.drop (List.sublist_append_right _ _))
theorem bet_some (m d : List Int → Int) (s : Option (List Int)) (x : List Int) : bet m d s (some x) = if (∀ y, s = some y → worse m d y x) then some x else s := by
  cases s with
  | none => simp [bet]
  | some y => simp [bet]
def TryOk (m : Nat) (hd : Int) (q : Nat) (A B C R T : Option Addr) (l : List Edg) (ts : List Truck) (ns : List Need) (rn : List Int) (ca cb cc cr tc : Nat) (al : Bool) (t : Truck) (os : List Nat) : Prop :=
  ∀ (s : Option (List Int)) (Cd : List Int → Prop) (O X : Option Addr) (oc xl xc : Nat) (fd : Bool) (mv sc : Int) (w0 : World),
    RowsAt 2 needCells w0 C ns → IntsAt w0 R rn → TabAt w0 T m l (nodesOf ns t rn) → IntsAt w0 O (os.map fun v : Nat => (v : Int)) →
    StOk m l ts ns hd q s fd xl mv sc → (∀ x, s = some x → IntsAt w0 X x) → (∀ x, s = some x → x.length ≤ 6) → IsBest (mvL ns) (secsD m l ts ns hd q) Cd s →
    Calls Try.prog 26 #[.agg (srL m A B C l.length ts.length ns.length ca cb cc hd t R rn.length cr T (rn.length + 1) tc al O os.length oc fd X xl xc mv sc).toArray] w0 fun e w' =>
      ∃ (s' : Option (List Int)) (fd' : Bool) (O' X' : Option Addr) (ol' oc' xl' xc' : Nat) (mv' sc' : Int) (L' : List Blk), e = .returned (.agg (srL m A B C l.length ts.length ns.length ca cb cc hd t R rn.length cr T (rn.length + 1) tc al O' ol' oc' fd' X' xl' xc' mv' sc').toArray) ∧
        StOk m l ts ns hd q s' fd' xl' mv' sc' ∧ (∀ x, s' = some x → x.length ≤ 6) ∧ IsBest (mvL ns) (secsD m l ts ns hd q) (fun o => Cd o ∨ ExtP m l ts ns hd q rn al os o) s' ∧ Kept s s' X X' L' ∧ SH w0 [] w' L'
set_option maxHeartbeats 16000000 in
theorem rTryStep (m : Nat) (hd : Int) (q : Nat) (A B C R T : Option Addr) (l : List Edg) (ts : List Truck) (ns : List Need) (rn : List Int) (ca cb cc cr tc : Nat) (al : Bool) (hq : q < ts.length) (hk : AskOk m l ts ns hd q rn)
    (os : List Nat) (hnd : os.Nodup) (hin : ∀ i ∈ os, i < rn.length) (hol : os.length ≤ 6)
    (ih : ∀ i, i < rn.length → i ∉ os → TryOk m hd q A B C R T l ts ns rn ca cb cc cr tc al ts[q] (os ++ [i])) : TryOk m hd q A B C R T l ts ns rn ca cb cc cr tc al ts[q] os := by
  intro s Cd O X oc xl xc fd mv sc w0 hn hr hT hO hst hX hX6 hbs
  have H := SH.refl w0
  have hl6 := hk.len
  have hw := fun w hn hr hT hO => rWalk m hd q A B C R T O X l ts ns rn os ca cb cc cr tc oc xl xc al fd mv sc w hn hr hq hk hT hO hin hol
  have hpl : (plc rn os).length = os.length := by unfold plc; rw [List.length_map]
  unfold srL
  unfold srL at hw
  refine Calls.ofWPc Try.func26 rfl Try.results26 Try.ntmps26 rfl ?_
  refine WP.seq ?_
  refine WP.region ?_
  refine OPS.box rfl rfl rfl rfl (cA rfl) H ?_
  clear H; intro g1 w H
  refine OPS.alloc rfl rfl rfl rfl (zero_run rfl) rfl H ?_
  clear H; intro g2 w H
  refine OPS.nil ?_
  refine WP.seq ?_
  refine WP.region ?_
  refine OPS.val rfl rfl rfl ((by exact Ev.loadO 1 H rfl (agg_run rfl) (size_run rfl) (by rfl) rfl)) ?_
  refine OPS.call (d := some 14) rfl rfl rfl (EvC.func (fun_run rfl)) (hw w (hn.sh H) (hr.sh H) (hT.below H.below) (hO.sh H)) ?_
  rintro _ w ⟨mo, se, ok, op, rfl, hop, hok1, hok2, hb⟩
  refine ⟨_, rfl, ?_⟩
  replace H := H.toBelow hb
  clear hb hw
  refine OPS.val rfl rfl rfl (Ev.mvT rfl) ?_
  refine OPS.val rfl rfl rfl (Ev.extract rfl rfl) ?_
  refine OPS.val rfl rfl rfl (Ev.extract rfl rfl) ?_
  refine OPS.val rfl rfl rfl (Ev.extract rfl rfl) ?_
  refine OPS.val rfl rfl rfl (Ev.extract rfl rfl) ?_
  refine OPS.val rfl rfl rfl (Ev.asI rfl) ?_
  refine OPS.val rfl rfl rfl (Ev.asI rfl) ?_
  refine OPS.val rfl rfl rfl (Ev.asB rfl) ?_
  refine OPS.val rfl rfl rfl (Ev.asB rfl) ?_
  refine OPS.nil ?_
  refine WP.seq ?_
  refine WP.seq ?_
  refine WP.region ?_
  refine OPS.val rfl rfl rfl (Ev.mvB rfl) ?_
  refine OPS.val rfl rfl rfl (Ev.not rfl) ?_
  refine OPS.nil ?_
  refine WP.cond rfl (fun hc2 => ?_) (fun hc2 => ?_)
  · refine WP.seq ?_
    refine WP.region ?_
    refine OPS.val rfl rfl rfl ((by exact Ev.loadO 1 H rfl (agg_run rfl) (size_run rfl) (by rfl) rfl)) ?_
    refine OPS.store 0 _ rfl rfl rfl (size_run rfl) rfl (cA rfl) rfl rfl H rfl (by simp) ?_
    clear H; intro w H; try simp only [List.set_cons_zero, List.set_cons_succ, putL, Nat.zero_add] at H
    refine OPS.nil ?_
    refine WP.ret ⟨[_], ⟨(by exact resCellA 0 H rfl (agg_run rfl) (size_run rfl) (by rfl) rfl), trivial⟩, ?_⟩
    have hgo : goE (roadD m l) ts[q].cap hd ns (plc rn os) (startT ts[q]) ≠ 0 := fun h => by
      rw [hop.2 h] at hc2; cases hc2
    exact ⟨s, fd, O, X, os.length, oc, xl, xc, mv, sc, [], rfl, hst, hX6, hbs.congr (fun o => by simp [ext_closed hk hq hgo o]), .inl ⟨rfl, rfl⟩, H.drop (List.nil_sublist _)⟩
  have hgo : goE (roadD m l) ts[q].cap hd ns (plc rn os) (startT ts[q]) = 0 := hop.1 (by simpa using hc2)
  have hwe := walkE_iff hk hq ((plc_nodup hk.nd hin).2 hnd) (plc_mem hin)
  refine WP.skip ?_
  refine WP.seq ?_
  refine WP.seq ?_
  refine WP.region ?_
  refine OPS.val rfl rfl rfl (Ev.mvB rfl) ?_
  refine OPS.val rfl rfl rfl (Ev.mvB rfl) ?_
  refine OPS.gval rfl rfl rfl rfl rfl (fun hg => Ev.fieldAddr (fld_run rfl) (by rfl)) ?_
  refine OPS.gval rfl rfl rfl rfl rfl (fun hg => Ev.load1 (agg_run rfl) (by exact gvE hg rfl) (by exact H.ldL 1 rfl _ rfl)) ?_
  refine OPS.gval rfl rfl rfl rfl rfl (fun hg => Ev.not (by exact gvE hg rfl)) ?_
  refine OPS.gval rfl rfl rfl rfl rfl (fun hg => Ev.mvB (by exact gvE hg rfl)) ?_
  refine OPS.gvalN rfl rfl (GB.g rfl) rfl rfl (fun hg => Ev.fieldAddr (fld_run rfl) (by rfl)) ?_
  refine OPS.gvalN rfl rfl (GB.g rfl) rfl rfl (fun hg => Ev.load1 (agg_run rfl) (by exact gvE hg rfl) (by exact H.ldL 1 rfl _ rfl)) ?_
  refine OPS.gvalN rfl rfl (GB.g rfl) rfl rfl (fun hg => Ev.len (el_run rfl) (by exact gvE hg rfl)) ?_
  refine OPS.gvalN rfl rfl (GB.g rfl) rfl rfl (fun hg => Ev.fieldAddr (fld_run rfl) (by rfl)) ?_
  refine OPS.gvalN rfl rfl (GB.g rfl) rfl rfl (fun hg => Ev.load1 (agg_run rfl) (by exact gvE hg rfl) (by exact H.ldL 1 rfl _ rfl)) ?_
  refine OPS.gvalN rfl rfl (GB.g rfl) rfl rfl (fun hg => Ev.len (el_run rfl) (by exact gvE hg rfl)) ?_
  refine OPS.gvalN rfl rfl (GB.g rfl) rfl rfl (fun hg => Ev.eql (by exact gvE hg rfl) (by exact gvE hg rfl)) ?_
  refine OPS.gval rfl rfl rfl rfl rfl (fun hg => (by exact Ev.pickOr2 (beqT hg) (gvE hg rfl) rfl rfl)) ?_
  refine OPS.val rfl rfl rfl ((by exact Ev.pickAnd rfl rfl rfl)) ?_
  refine OPS.nil ?_
  refine WP.cut [7, 37, 38, 39, 40, 41, 42, 43, 44, 45, 46, 47, 48, 49, 50, 51, 52, 53, 54, 55, 56, 57, 58, 59, 60, 61, 62, 63, 64, 65, 66, 67, 68, 69, 70, 71, 72, 73, 74, 75, 76, 77, 78] (fun _ w' => ∃ (s2 : Option (List Int)) (fd2 : Bool) (X2 : Option Addr) (xl2 xc2 : Nat) (mv2 sc2 : Int) (Lx : List Blk), StOk m l ts ns hd q s2 fd2 xl2 mv2 sc2 ∧ (∀ x, s2 = some x → x.length ≤ 6) ∧ IsBest (mvL ns) (secsD m l ts ns hd q) (fun o => Cd o ∨ OwnP m l ts ns hd q rn al os o) s2 ∧ Kept s s2 X X2 Lx ∧ SH w0 [] w' ([⟨g2, 57, srL 0 none none none 0 0 0 0 0 0 0 ⟨0, 0, 0, 0⟩ none 0 0 none 0 0 false none 0 0 false none 0 0 0 0⟩, ⟨g1, 57, srL m A B C l.length ts.length ns.length ca cb cc hd ts[q] R rn.length cr T (rn.length + 1) tc al O os.length oc fd2 X2 xl2 xc2 mv2 sc2⟩] ++ Lx)) ?_ ?_
  · refine WP.cond rfl (fun hc4 => ?_) (fun hc4 => ?_)
    · have h4 : ok = true ∧ (al = true → os.length = rn.length) := by
        cases ok <;> cases al <;> simp at hc4 ⊢ <;> omega
      obtain ⟨hokt, hfull⟩ := h4
      obtain ⟨_, hmo, hse⟩ := hok1 hokt
      have hfe : walkE m l ts ns hd q (plc rn os) = 0 := hwe.2 ⟨hgo, (hok2.1 hokt).2⟩
      have hsd := secsD_eq hq hfe
      rw [← hse] at hsd
      have hbs2 := hbs.union (IsBest.one (m := mvL ns) (d := secsD m l ts ns hd q) (plc rn os))
      rw [bet_some] at hbs2
      have hown : ∀ o, (Cd o ∨ o = plc rn os) ↔ (Cd o ∨ OwnP m l ts ns hd q rn al os o) := fun o => by
        constructor
        · rintro (h | h)
          · exact .inl h
          · exact .inr ⟨hfull, h, by rw [h]; exact hfe⟩
        · rintro (h | h)
          · exact .inl h
          · exact .inr h.2.1
      refine WP.seq ?_
      refine WP.region ?_
      refine OPS.val rfl rfl rfl ((by exact Ev.loadO 1 H rfl (agg_run rfl) (size_run rfl) (by rfl) rfl)) ?_
      refine OPS.call (d := some 38) rfl rfl rfl (EvC.func (fun_run rfl)) (rNumbers m hd A B C R T O X l.length ts.length ns.length ts[q] rn os ca cb cc cr (rn.length + 1) tc oc xl xc al fd mv sc w (hr.sh H) (hO.sh H) hin hol) ?_
      rintro _ w ⟨V, cv, Lv, rfl, hOV, Hc⟩
      refine ⟨_, rfl, ?_⟩
      replace H := SH.call (L1 := [_, _]) (Lv := []) H Hc
      clear Hc
      simp only [List.cons_append, List.nil_append] at H
      have hbf : ∀ (b1 b2 : Blk) (w : World), SH w0 [] w (b1 :: b2 :: Lv) → fd = true → Calls Try.prog 33 #[.slice V os.length cv, .slice X xl xc] w fun e w' => e = .returned (.bool (lexB (plc rn os) (s.getD []))) ∧ Below w.heap.size w w' := fun b1 b2 w H hfd => by
        cases s with
        | none => rw [show fd = false from hst] at hfd; cases hfd
        | some x =>
          obtain ⟨_, hx1, _⟩ := hst
          have h := rBefore0 V X (plc rn os) x cv xc w (hOV.ones (R := [b1, b2]) H).1 ((hX x rfl).sh H) (by omega) (by have := hX6 x rfl; omega)
          rw [hpl, ← hx1] at h
          exact h
      refine OPS.val rfl rfl rfl (Ev.asS rfl) ?_
      refine OPS.nil ?_
      refine WP.seq ?_
      refine WP.region ?_
      refine OPS.val rfl rfl rfl (Ev.fieldAddr (fld_run rfl) rfl) ?_
      refine OPS.val rfl rfl rfl (Ev.load1 (agg_run rfl) rfl (by exact H.ldL 1 rfl _ rfl)) ?_
      refine OPS.val rfl rfl rfl (Ev.not rfl) ?_
      refine OPS.val rfl rfl rfl (Ev.mvB rfl) ?_
      refine OPS.gval rfl rfl rfl rfl rfl (fun hg => Ev.mvI (by rfl)) ?_
      refine OPS.gval rfl rfl rfl rfl rfl (fun hg => Ev.fieldAddr (fld_run rfl) (by rfl)) ?_
      refine OPS.gval rfl rfl rfl rfl rfl (fun hg => Ev.load1 (agg_run rfl) (by exact gvE hg rfl) (by exact H.ldL 1 rfl _ rfl)) ?_
      refine OPS.gval rfl rfl rfl rfl rfl (fun hg => Ev.gtr (by exact gvE hg rfl) (by exact gvE hg rfl)) ?_
      refine OPS.val rfl rfl rfl ((by exact Ev.pickOr rfl rfl rfl)) ?_
      refine OPS.val rfl rfl rfl (Ev.mvB rfl) ?_
      refine OPS.gval rfl rfl rfl rfl rfl (fun hg => Ev.mvI (by rfl)) ?_
      refine OPS.gval rfl rfl rfl rfl rfl (fun hg => Ev.fieldAddr (fld_run rfl) (by rfl)) ?_
      refine OPS.gval rfl rfl rfl rfl rfl (fun hg => Ev.load1 (agg_run rfl) (by exact gvE hg rfl) (by exact H.ldL 1 rfl _ rfl)) ?_
      refine OPS.gval rfl rfl rfl rfl rfl (fun hg => Ev.eql (by exact gvE hg rfl) (by exact gvE hg rfl)) ?_
      refine OPS.gval rfl rfl rfl rfl rfl (fun hg => Ev.mvB (by exact gvE hg rfl)) ?_
      refine OPS.gvalN rfl rfl (GB.g rfl) rfl rfl (fun hg => Ev.mvI (by rfl)) ?_
      refine OPS.gvalN rfl rfl (GB.g rfl) rfl rfl (fun hg => Ev.fieldAddr (fld_run rfl) (by rfl)) ?_
      refine OPS.gvalN rfl rfl (GB.g rfl) rfl rfl (fun hg => Ev.load1 (agg_run rfl) (by exact gvE hg rfl) (by exact H.ldL 1 rfl _ rfl)) ?_
      refine OPS.gvalN rfl rfl (GB.g rfl) rfl rfl (fun hg => Ev.lss (by exact gvE hg rfl) (by exact gvE hg rfl)) ?_
      refine OPS.gvalN rfl rfl (GB.g rfl) rfl rfl (fun hg => Ev.mvB (by exact gvE hg rfl)) ?_
      refine OPS.gvalN rfl rfl (GB.g rfl) rfl rfl (fun hg => Ev.mvI (by rfl)) ?_
      refine OPS.gvalN rfl rfl (GB.g rfl) rfl rfl (fun hg => Ev.fieldAddr (fld_run rfl) (by rfl)) ?_
      refine OPS.gvalN rfl rfl (GB.g rfl) rfl rfl (fun hg => Ev.load1 (agg_run rfl) (by exact gvE hg rfl) (by exact H.ldL 1 rfl _ rfl)) ?_
      refine OPS.gvalN rfl rfl (GB.g rfl) rfl rfl (fun hg => Ev.eql (by exact gvE hg rfl) (by exact gvE hg rfl)) ?_
      refine OPS.gvalN rfl rfl (GB.g rfl) rfl rfl (fun hg => Ev.mvB (by exact gvE hg rfl)) ?_
      refine OPS.gvalN rfl rfl (GB.g rfl) rfl rfl (fun hg => Ev.mvS (by rfl)) ?_
      refine OPS.gvalN rfl rfl (GB.g rfl) rfl rfl (fun hg => Ev.fieldAddr (fld_run rfl) (by rfl)) ?_
      refine OPS.gvalN rfl rfl (GB.g rfl) rfl rfl (fun hg => Ev.load1 (agg_run rfl) (by exact gvE hg rfl) (by exact H.ldL 1 rfl _ rfl)) ?_
      refine OPS.gcallN (α := Unit) (f := 33) (args := [.slice V os.length cv, .slice X xl xc]) (fun _ => .bool (lexB (plc rn os) (s.getD []))) (fun _ _ => True) (fun hg => (hbf _ _ w H (by cases fd with | true => rfl | false => simp at hg)).mono fun e w' ⟨he, hb⟩ => ⟨(), he, trivial, hb⟩) rfl rfl (GB.g rfl) rfl rfl (fun hg => EvC.conv (EvC.func (fun_run rfl)) (l2 (gvE hg rfl) (gvE hg rfl))) ?_
      intro _ w _ hbc; replace H := H.toBelow hbc; clear hbc
      refine OPS.gvalN rfl rfl (GB.g rfl) rfl rfl (fun hg => (by exact Ev.pickAnd2 (beqT hg) (gvE hg rfl) rfl rfl)) ?_
      refine OPS.gvalN rfl rfl (GB.g rfl) rfl rfl (fun hg => (by exact Ev.pickOr2 (beqT hg) (gvE hg rfl) rfl rfl)) ?_
      refine OPS.gval rfl rfl rfl rfl rfl (fun hg => (by exact Ev.pickAnd2 (beqT hg) (gvE hg rfl) rfl rfl)) ?_
      refine OPS.val rfl rfl rfl ((by exact Ev.pickOr rfl rfl rfl)) ?_
      refine OPS.nil ?_
      refine WP.cond rfl (fun hc6 => ?_) (fun hc6 => ?_)
      · have hbt : ∀ y, s = some y → worse (mvL ns) (secsD m l ts ns hd q) y (plc rn os) := fun y hy => by
          subst hy
          obtain ⟨h1, h2, h3, h4⟩ := hst
          subst h1 h3 h4
          unfold worse
          rw [hsd, ← hmo]
          simp at hc6
          grind
        rw [if_pos hbt] at hbs2
        refine WP.region ?_
        refine OPS.val rfl rfl rfl (Ev.mvS rfl) ?_
        refine OPS.val rfl rfl rfl (Ev.mvI rfl) ?_
        refine OPS.val rfl rfl rfl (Ev.mvI rfl) ?_
        refine OPS.val rfl rfl rfl (Ev.fieldAddr (fld_run rfl) rfl) ?_
        refine OPS.store 1 _ rfl rfl rfl (size_run rfl) rfl (cB rfl) rfl rfl H rfl (by simp) ?_
        clear H; intro w H; try simp only [List.set_cons_zero, List.set_cons_succ, putL, Nat.zero_add] at H
        refine OPS.val rfl rfl rfl (Ev.fieldAddr (fld_run rfl) rfl) ?_
        refine OPS.store 1 _ rfl rfl rfl (size_run rfl) rfl (cS rfl) rfl rfl H rfl (by simp) ?_
        clear H; intro w H; try simp only [List.set_cons_zero, List.set_cons_succ, putL, Nat.zero_add] at H
        refine OPS.val rfl rfl rfl (Ev.fieldAddr (fld_run rfl) rfl) ?_
        refine OPS.store 1 _ rfl rfl rfl (size_run rfl) rfl (cI rfl) rfl rfl H rfl (by simp) ?_
        clear H; intro w H; try simp only [List.set_cons_zero, List.set_cons_succ, putL, Nat.zero_add] at H
        refine OPS.val rfl rfl rfl (Ev.fieldAddr (fld_run rfl) rfl) ?_
        refine OPS.store 1 _ rfl rfl rfl (size_run rfl) rfl (cI rfl) rfl rfl H rfl (by simp) ?_
        clear H; intro w H; try simp only [List.set_cons_zero, List.set_cons_succ, putL, Nat.zero_add] at H
        refine OPS.nil ?_
        have hlf : ∃ (s2 : Option (List Int)) (fd2 : Bool) (X2 : Option Addr) (xl2 xc2 : Nat) (mv2 sc2 : Int) (Lx : List Blk), StOk m l ts ns hd q s2 fd2 xl2 mv2 sc2 ∧ (∀ x, s2 = some x → x.length ≤ 6) ∧ IsBest (mvL ns) (secsD m l ts ns hd q) (fun o => Cd o ∨ OwnP m l ts ns hd q rn al os o) s2 ∧ Kept s s2 X X2 Lx ∧ SH w0 [] w ([⟨g2, 57, srL 0 none none none 0 0 0 0 0 0 0 ⟨0, 0, 0, 0⟩ none 0 0 none 0 0 false none 0 0 false none 0 0 0 0⟩, ⟨g1, 57, srL m A B C l.length ts.length ns.length ca cb cc hd ts[q] R rn.length cr T (rn.length + 1) tc al O os.length oc fd2 X2 xl2 xc2 mv2 sc2⟩] ++ Lx) :=
          ⟨some (plc rn os), true, V, os.length, cv, mo, se, Lv, ⟨rfl, hpl.symm, hmo, hsd.symm⟩, (fun x hx => by cases hx; omega), hbs2.congr hown, .inr (fun x hx _ _ _ H => by cases hx; exact (hOV.ones (R := []) H).1), H⟩
        exact ⟨(by repeat (first | exact Agree.refl _ _ | exact Agree.mix _ _ _ | refine Agree.upd rfl ?_ | refine Agree.mix2 rfl ?_)), hlf⟩
      have hbt : ¬ ∀ y, s = some y → worse (mvL ns) (secsD m l ts ns hd q) y (plc rn os) := fun h => by
        cases s with
        | none =>
          rw [show fd = false from hst] at hc6; simp at hc6
        | some y =>
          obtain ⟨h1, h2, h3, h4⟩ := hst
          subst h1 h3 h4
          have h5 := h y rfl
          unfold worse at h5
          rw [hsd, ← hmo] at h5
          simp at hc6
          grind
      rw [if_neg hbt] at hbs2
      have hlf : ∃ (s2 : Option (List Int)) (fd2 : Bool) (X2 : Option Addr) (xl2 xc2 : Nat) (mv2 sc2 : Int) (Lx : List Blk), StOk m l ts ns hd q s2 fd2 xl2 mv2 sc2 ∧ (∀ x, s2 = some x → x.length ≤ 6) ∧ IsBest (mvL ns) (secsD m l ts ns hd q) (fun o => Cd o ∨ OwnP m l ts ns hd q rn al os o) s2 ∧ Kept s s2 X X2 Lx ∧ SH w0 [] w ([⟨g2, 57, srL 0 none none none 0 0 0 0 0 0 0 ⟨0, 0, 0, 0⟩ none 0 0 none 0 0 false none 0 0 false none 0 0 0 0⟩, ⟨g1, 57, srL m A B C l.length ts.length ns.length ca cb cc hd ts[q] R rn.length cr T (rn.length + 1) tc al O os.length oc fd2 X2 xl2 xc2 mv2 sc2⟩] ++ Lx) :=
        ⟨s, fd, X, xl, xc, mv, sc, Lv, hst, hX6, hbs2.congr hown, .inl ⟨rfl, rfl⟩, H⟩
      refine WP.skip ?_
      exact ⟨(by repeat (first | exact Agree.refl _ _ | exact Agree.mix _ _ _ | refine Agree.upd rfl ?_ | refine Agree.mix2 rfl ?_)), hlf⟩
    have hno : ∀ o, ¬ OwnP m l ts ns hd q rn al os o := fun o h => by
      obtain ⟨h1, h2, h3⟩ := h
      rw [h2] at h3
      have h5 := hok2.2 ⟨hop.2 hgo, (hwe.1 h3).2⟩
      cases al
      · simp [h5] at hc4
      · have := h1 rfl
        simp [h5] at hc4; omega
    have hlf : ∃ (s2 : Option (List Int)) (fd2 : Bool) (X2 : Option Addr) (xl2 xc2 : Nat) (mv2 sc2 : Int) (Lx : List Blk), StOk m l ts ns hd q s2 fd2 xl2 mv2 sc2 ∧ (∀ x, s2 = some x → x.length ≤ 6) ∧ IsBest (mvL ns) (secsD m l ts ns hd q) (fun o => Cd o ∨ OwnP m l ts ns hd q rn al os o) s2 ∧ Kept s s2 X X2 Lx ∧ SH w0 [] w ([⟨g2, 57, srL 0 none none none 0 0 0 0 0 0 0 ⟨0, 0, 0, 0⟩ none 0 0 none 0 0 false none 0 0 false none 0 0 0 0⟩, ⟨g1, 57, srL m A B C l.length ts.length ns.length ca cb cc hd ts[q] R rn.length cr T (rn.length + 1) tc al O os.length oc fd2 X2 xl2 xc2 mv2 sc2⟩] ++ Lx) :=
      ⟨s, fd, X, xl, xc, mv, sc, [], hst, hX6, hbs.congr (fun o => by simp [hno o]), .inl ⟨rfl, rfl⟩, H⟩
    refine WP.skip ?_
    exact ⟨(by repeat (first | exact Agree.refl _ _ | exact Agree.mix _ _ _ | refine Agree.upd rfl ?_ | refine Agree.mix2 rfl ?_)), hlf⟩
  clear H
  rintro u w ⟨s2, fd2, X2, xl2, xc2, mv2, sc2, Lx, hst2, hs26, hbs2, hkp, H⟩
  unfold srL at H
  replace H : SH w0 [] w (⟨g2, _, _⟩ :: ⟨g1, _, _⟩ :: Lx) := H
  refine WP.seq ?_
  refine WP.region ?_
  refine OPS.val rfl rfl rfl (Ev.fieldAddr (fld_run rfl) rfl) ?_
  refine OPS.val rfl rfl rfl (Ev.load1 (agg_run rfl) rfl (by exact H.ldL 1 rfl _ rfl)) ?_
  refine OPS.val rfl rfl rfl (Ev.asS rfl) ?_
  refine OPS.nil ?_
  refine WP.seq ?_
  refine WP.seq ?_
  refine WP.region ?_
  refine OPS.val rfl rfl rfl (Ev.asI rfl) ?_
  refine OPS.nil ?_
  refine WP.block ?_
  refine WP.loop [9, 10, 11, 81, 82, 83, 84, 85, 86, 87, 88, 89, 90, 91, 92, 93, 94, 95, 96, 97, 98, 99, 100, 101, 102, 103, 104, 105, 106, 107, 108, 109, 110, 111, 112, 113] (fun k e w' => ∃ (i : Nat) (s3 : Option (List Int)) (fd3 : Bool) (O3 X3 : Option Addr) (ol3 oc3 xl3 xc3 : Nat) (mv3 sc3 : Int) (Lz : List Blk), i + k = rn.length ∧ e 9 = I i ∧ StOk m l ts ns hd q s3 fd3 xl3 mv3 sc3 ∧ (∀ x, s3 = some x → x.length ≤ 6) ∧ IsBest (mvL ns) (secsD m l ts ns hd q) (fun o => (Cd o ∨ OwnP m l ts ns hd q rn al os o) ∨ ∃ p, p < i ∧ p ∉ os ∧ ExtP m l ts ns hd q rn al (os ++ [p]) o) s3 ∧ Kept s s3 X X3 Lz ∧ SH w0 [] w' (⟨g2, 57, srL 0 none none none 0 0 0 0 0 0 0 ⟨0, 0, 0, 0⟩ none 0 0 none 0 0 false none 0 0 false none 0 0 0 0⟩ :: ⟨g1, 57, srL m A B C l.length ts.length ns.length ca cb cc hd ts[q] R rn.length cr T (rn.length + 1) tc al O3 ol3 oc3 fd3 X3 xl3 xc3 mv3 sc3⟩ :: Lz)) (rn.length) (⟨0, s2, fd2, O, X2, os.length, oc, xl2, xc2, mv2, sc2, Lx, by omega, rfl, hst2, hs26, hbs2.congr (fun o => by simp), hkp, H⟩) ?_
  clear H hkp hbs2 hs26 hst2 s2 fd2 X2 xl2 xc2 mv2 sc2 Lx
  rintro k u w ⟨i, s2, fd2, O3, X2, ol3, oc3, xl2, xc2, mv2, sc2, Lx, hkk, h9, hst2, hs26, hbs2, hkp, H⟩
  unfold srL at H
  refine WP.know (t := 9) h9 ?_
  refine WP.seq ?_
  refine WP.seq ?_
  refine WP.region ?_
  refine OPS.val rfl rfl rfl (Ev.mvI rfl) ?_
  refine OPS.val rfl rfl rfl (Ev.fieldAddr (fld_run rfl) rfl) ?_
  refine OPS.val rfl rfl rfl (Ev.load1 (agg_run rfl) rfl (by exact H.ldL 1 rfl _ rfl)) ?_
  refine OPS.val rfl rfl rfl (Ev.len (el_run rfl) rfl) ?_
  refine OPS.val rfl rfl rfl (Ev.lss rfl rfl) ?_
  refine OPS.nil ?_
  refine WP.cond rfl (fun hc10 => ?_) (fun hc10 => ?_)
  · have hil : i < rn.length := by simpa using hc10
    refine WP.skip ?_
    refine WP.seq ?_
    refine WP.block ?_
    refine WP.seq ?_
    refine WP.region ?_
    refine OPS.val rfl rfl rfl (Ev.asB rfl) ?_
    refine OPS.nil ?_
    refine WP.seq ?_
    refine WP.seq ?_
    refine WP.region ?_
    refine OPS.val rfl rfl rfl (Ev.asI rfl) ?_
    refine OPS.nil ?_
    refine WP.block ?_
    refine WP.loop [10, 11, 88, 89, 90, 91, 92, 93, 94, 95, 96, 97, 98, 99, 100, 101, 102] (fun k e w' => ∃ (j : Nat), j + k = os.length ∧ e 11 = I j ∧ e 10 = .bool (decide (i ∈ os.take j)) ∧ SH w0 [] w' (⟨g2, 57, srL 0 none none none 0 0 0 0 0 0 0 ⟨0, 0, 0, 0⟩ none 0 0 none 0 0 false none 0 0 false none 0 0 0 0⟩ :: ⟨g1, 57, srL m A B C l.length ts.length ns.length ca cb cc hd ts[q] R rn.length cr T (rn.length + 1) tc al O3 ol3 oc3 fd2 X2 xl2 xc2 mv2 sc2⟩ :: Lx)) (os.length) (⟨0, by omega, rfl, (by rw [show decide (i ∈ os.take 0) = false by simp]; rfl), H⟩) ?_
    clear H
    rintro k2 u2 w ⟨j, hk2, h11, h10, H⟩
    unfold srL at H
    refine WP.know (t := 11) h11 (WP.know (t := 10) h10 ?_)
    refine WP.seq ?_
    refine WP.seq ?_
    refine WP.region ?_
    refine OPS.val rfl rfl rfl (Ev.mvI rfl) ?_
    refine OPS.val rfl rfl rfl (Ev.mvS rfl) ?_
    refine OPS.val rfl rfl rfl (Ev.len (el_run rfl) rfl) ?_
    refine OPS.val rfl rfl rfl (Ev.lss rfl rfl) ?_
    refine OPS.nil ?_
    refine WP.cond rfl (fun hc14 => ?_) (fun hc14 => ?_)
    · have hjl : j < os.length := by simpa using hc14
      have hcO := hO j (by simpa using hjl)
      have htk := List.take_succ_eq_append_getElem hjl
      simp only [List.getElem_map] at hcO
      generalize os[j] = p at hcO htk
      obtain ⟨bO, oO, hOe, hcO⟩ := hcO
      subst hOe
      have hde : decide (i ∈ os.take (j + 1)) = (decide (i ∈ os.take j) || decide ((p : Int) = (i : Int))) := by
        rw [htk, Bool.eq_iff_iff]; simp only [decide_eq_true_eq, Bool.or_eq_true, List.mem_append, List.mem_singleton]
        constructor <;> (rintro (h | h); exact .inl h; exact .inr (by omega))
      refine WP.skip ?_
      refine WP.seq ?_
      refine WP.block ?_
      refine WP.region ?_
      refine OPS.val rfl rfl rfl (Ev.mvB rfl) ?_
      refine OPS.val rfl rfl rfl (Ev.mvB rfl) ?_
      refine OPS.gval rfl rfl rfl rfl rfl (fun hg => Ev.mvS (by rfl)) ?_
      refine OPS.gval rfl rfl rfl rfl rfl (fun hg => Ev.mvI (by rfl)) ?_
      refine OPS.gval rfl rfl rfl rfl rfl (fun hg => (by exact Ev.indexAddr1 (el_run rfl) (size_run rfl) (by exact gvE hg rfl) (by exact gvE hg rfl) rfl (by omega))) ?_
      refine OPS.gval rfl rfl rfl rfl rfl (fun hg => Ev.load1 (agg_run rfl) (by exact gvE hg rfl) (by exact H.ld0 (by assumption))) ?_
      refine OPS.gval rfl rfl rfl rfl rfl (fun hg => Ev.mvI (by rfl)) ?_
      refine OPS.gval rfl rfl rfl rfl rfl (fun hg => Ev.eql (by exact gvE hg rfl) (by exact gvE hg rfl)) ?_
      refine OPS.val rfl rfl rfl ((by exact Ev.pickOr rfl rfl rfl)) ?_
      refine OPS.val rfl rfl rfl (Ev.asB rfl) ?_
      refine OPS.nil ?_
      refine WP.region ?_
      refine OPS.val rfl rfl rfl (Ev.mvI rfl) ?_
      refine OPS.val rfl rfl rfl (Ev.add rfl rfl (by unfold fits; omega)) ?_
      refine OPS.val rfl rfl rfl (Ev.asI rfl) ?_
      refine OPS.nil ?_
      exact ⟨(by repeat (first | exact Agree.refl _ _ | exact Agree.mix _ _ _ | refine Agree.upd rfl ?_ | refine Agree.mix2 rfl ?_)), k2 - 1, by omega, j + 1, by omega, rfl, (by rw [hde]; rfl), H⟩
    have hj : j = os.length := by simp at hc14; omega
    refine WP.exit ?_
    refine XB.hit ?_
    refine WP.seq ?_
    refine WP.region ?_
    refine OPS.val rfl rfl rfl (Ev.mvB rfl) ?_
    refine OPS.val rfl rfl rfl (Ev.not rfl) ?_
    refine OPS.nil ?_
    refine WP.cond rfl (fun hc17 => ?_) (fun hc17 => ?_)
    · have hni : i ∉ os := by rw [hj, List.take_length] at hc17; simpa using hc17
      have ihc := ih i hil hni
      unfold TryOk at ihc
      rw [show (os ++ [i]).length = os.length + 1 by simp] at ihc
      unfold srL at ihc
      refine WP.seq ?_
      refine WP.region ?_
      refine OPS.buildSlice rfl rfl rfl rfl (bsl_29_0_ (e := fun _ => .int .i64 0)) H ?_
      clear H; intro g105 w H
      refine OPS.val rfl rfl rfl (Ev.mvS rfl) ?_
      refine OPS.appendE (m := os.length) (news := (os.map fun v : Nat => (v : Int)).map I) rfl rfl rfl rfl rfl (sl_run rfl) rfl rfl (OwnS.mt (g := g105)) (by simp) (by have := intsFrom (hO.sh H); simpa using this) (intsOne _) (by omega) (by unfold maxLen; omega) H (List.perm_append_singleton _ _).symm ?_
      clear H; intro AE ce Le w hOE H
      rw [Nat.zero_add, List.nil_append] at hOE
      rw [show 0 + os.length = os.length from Nat.zero_add _]
      simp only [List.cons_append] at H
      refine OPS.val rfl rfl rfl (Ev.mvI rfl) ?_
      refine OPS.buildSlice rfl rfl rfl rfl (bsl_29_1_0 rfl) H ?_
      clear H; intro g109 w H
      refine OPS.append (m := 1) (news := [I i]) (R := ⟨g109, 3, [I i]⟩ :: ⟨g2, 57, srL 0 none none none 0 0 0 0 0 0 0 ⟨0, 0, 0, 0⟩ none 0 0 none 0 0 false none 0 0 false none 0 0 0 0⟩ :: ⟨g1, 57, srL m A B C l.length ts.length ns.length ca cb cc hd ts[q] R rn.length cr T (rn.length + 1) tc al O3 ol3 oc3 fd2 X2 xl2 xc2 mv2 sc2⟩ :: Lx) rfl rfl rfl rfl rfl (sl_run rfl) rfl rfl hOE rfl (src_own H 0 rfl) rfl (by omega) (by unfold maxLen; omega) H (List.Perm.refl _) ?_
      clear H hOE; intro AE ce Le w hOE H
      unfold srL at H
      replace hOE : OwnS AE ce (os.length + 1) (((os ++ [i]).map fun v : Nat => (v : Int)).map I) 3 1 Le := by simpa using hOE
      simp only [List.cons_append] at H
      refine OPS.val rfl rfl rfl (Ev.fieldAddr (fld_run rfl) rfl) ?_
      refine OPS.store 2 _ rfl rfl rfl (size_run rfl) rfl (cS rfl) rfl rfl H rfl (by simp) ?_
      clear H; intro w H
      simp only [List.set_cons_zero, List.set_cons_succ, putL, Nat.zero_add] at H
      refine OPS.nil ?_
      refine WP.region ?_
      refine OPS.val rfl rfl rfl ((by exact Ev.loadO 2 H rfl (agg_run rfl) (size_run rfl) (by rfl) rfl)) ?_
      refine OPS.call (d := some 113) rfl rfl rfl (EvC.func (fun_run rfl)) (ihc s2 _ AE X2 ce xl2 xc2 fd2 mv2 sc2 w (hn.sh H) (hr.sh H) (hT.below H.below) (hOE.ones (R := []) (H.drop (L' := Le) Sb.out)).1 hst2 (hkp.read hX H Sb.out) hs26 hbs2) ?_
      rintro _ w ⟨s3, fd3, O4, X3, ol4, oc4, xl3, xc3, mv3, sc3, Lc, rfl, hst3, hs36, hbs3, hkp3, Hc⟩
      refine ⟨_, rfl, ?_⟩
      replace H := SH.call (L1 := _) (Lv := []) (by rw [List.append_nil]; exact H) Hc
      clear Hc
      simp only [List.cons_append] at H
      refine OPS.store 2 _ rfl rfl rfl (size_run rfl) rfl (cA rfl) rfl rfl H rfl (by simp) ?_
      clear H; intro w H
      simp only [List.set_cons_zero, List.set_cons_succ] at H
      refine OPS.nil ?_
      have hrd : ∃ (s3 : Option (List Int)) (fd3 : Bool) (O3 X3 : Option Addr) (ol3 oc3 xl3 xc3 : Nat) (mv3 sc3 : Int) (Lz : List Blk), StOk m l ts ns hd q s3 fd3 xl3 mv3 sc3 ∧ (∀ x, s3 = some x → x.length ≤ 6) ∧ IsBest (mvL ns) (secsD m l ts ns hd q) (fun o => (Cd o ∨ OwnP m l ts ns hd q rn al os o) ∨ ∃ p, p < i + 1 ∧ p ∉ os ∧ ExtP m l ts ns hd q rn al (os ++ [p]) o) s3 ∧ Kept s s3 X X3 Lz ∧ SH w0 [] w (⟨g2, 57, srL 0 none none none 0 0 0 0 0 0 0 ⟨0, 0, 0, 0⟩ none 0 0 none 0 0 false none 0 0 false none 0 0 0 0⟩ :: ⟨g1, 57, srL m A B C l.length ts.length ns.length ca cb cc hd ts[q] R rn.length cr T (rn.length + 1) tc al O3 ol3 oc3 fd3 X3 xl3 xc3 mv3 sc3⟩ :: Lz) :=
        ⟨s3, fd3, O4, X3, ol4, oc4, xl3, xc3, mv3, sc3, Lx ++ Lc, hst3, hs36, hbs3.congr (fun o => by
          constructor
          · rintro ((h | ⟨p, h1, h2, h3⟩) | h)
            · exact .inl h
            · exact .inr ⟨p, by omega, h2, h3⟩
            · exact .inr ⟨i, by omega, hni, h⟩
          · rintro (h | ⟨p, h1, h2, h3⟩)
            · exact .inl (.inl h)
            · by_cases hp : p = i
              · subst hp; exact .inr h3
              · exact .inl (.inr ⟨p, by omega, h2, h3⟩)), hkp.step hkp3, H.drop (by refine List.Sublist.cons _ (List.Sublist.cons_cons _ (List.Sublist.cons_cons _ ?_)); exact List.Sublist.append (List.sublist_append_left _ _) (List.Sublist.refl _))⟩
      refine WP.region ?_
      refine OPS.val rfl rfl rfl (Ev.mvI rfl) ?_
      refine OPS.val rfl rfl rfl (Ev.add rfl rfl (by unfold fits; omega)) ?_
      refine OPS.val rfl rfl rfl (Ev.asI rfl) ?_
      refine OPS.nil ?_
      obtain ⟨s3, fd3, O4, X3, ol4, oc4, xl3, xc3, mv3, sc3, Lz, hst3, hs36, hbs3, hkp3, H3⟩ := hrd
      exact ⟨(by repeat (first | exact Agree.refl _ _ | exact Agree.mix _ _ _ | refine Agree.upd rfl ?_ | refine Agree.mix2 rfl ?_)), k - 1, by omega, i + 1, s3, fd3, O4, X3, ol4, oc4, xl3, xc3, mv3, sc3, Lz, by omega, rfl, hst3, hs36, hbs3, hkp3, H3⟩
    have hni : i ∈ os := by rw [hj, List.take_length] at hc17; simpa using hc17
    have hrd : ∃ (s3 : Option (List Int)) (fd3 : Bool) (O3 X3 : Option Addr) (ol3 oc3 xl3 xc3 : Nat) (mv3 sc3 : Int) (Lz : List Blk), StOk m l ts ns hd q s3 fd3 xl3 mv3 sc3 ∧ (∀ x, s3 = some x → x.length ≤ 6) ∧ IsBest (mvL ns) (secsD m l ts ns hd q) (fun o => (Cd o ∨ OwnP m l ts ns hd q rn al os o) ∨ ∃ p, p < i + 1 ∧ p ∉ os ∧ ExtP m l ts ns hd q rn al (os ++ [p]) o) s3 ∧ Kept s s3 X X3 Lz ∧ SH w0 [] w (⟨g2, 57, srL 0 none none none 0 0 0 0 0 0 0 ⟨0, 0, 0, 0⟩ none 0 0 none 0 0 false none 0 0 false none 0 0 0 0⟩ :: ⟨g1, 57, srL m A B C l.length ts.length ns.length ca cb cc hd ts[q] R rn.length cr T (rn.length + 1) tc al O3 ol3 oc3 fd3 X3 xl3 xc3 mv3 sc3⟩ :: Lz) :=
      ⟨s2, fd2, O3, X2, ol3, oc3, xl2, xc2, mv2, sc2, Lx, hst2, hs26, hbs2.congr (fun o => by
        constructor
        · rintro (h | ⟨p, h1, h2, h3⟩)
          · exact .inl h
          · exact .inr ⟨p, by omega, h2, h3⟩
        · rintro (h | ⟨p, h1, h2, h3⟩)
          · exact .inl h
          · by_cases hp : p = i
            · subst hp; exact absurd hni h2
            · exact .inr ⟨p, by omega, h2, h3⟩), hkp, H⟩
    refine WP.skip ?_
    refine WP.region ?_
    refine OPS.val rfl rfl rfl (Ev.mvI rfl) ?_
    refine OPS.val rfl rfl rfl (Ev.add rfl rfl (by unfold fits; omega)) ?_
    refine OPS.val rfl rfl rfl (Ev.asI rfl) ?_
    refine OPS.nil ?_
    obtain ⟨s3, fd3, O4, X3, ol4, oc4, xl3, xc3, mv3, sc3, Lz, hst3, hs36, hbs3, hkp3, H3⟩ := hrd
    exact ⟨(by repeat (first | exact Agree.refl _ _ | exact Agree.mix _ _ _ | refine Agree.upd rfl ?_ | refine Agree.mix2 rfl ?_)), k - 1, by omega, i + 1, s3, fd3, O4, X3, ol4, oc4, xl3, xc3, mv3, sc3, Lz, by omega, rfl, hst3, hs36, hbs3, hkp3, H3⟩
  have hi : i = rn.length := by simp at hc10; omega
  refine WP.exit ?_
  refine XB.hit ?_
  refine WP.seq ?_
  refine WP.region ?_
  refine OPS.val rfl rfl rfl (Ev.mvS rfl) ?_
  refine OPS.val rfl rfl rfl (Ev.fieldAddr (fld_run rfl) rfl) ?_
  refine OPS.store 1 _ rfl rfl rfl (size_run rfl) rfl (cS rfl) rfl rfl H rfl (by simp) ?_
  clear H; intro w H; try simp only [List.set_cons_zero, List.set_cons_succ, putL, Nat.zero_add] at H
  refine OPS.nil ?_
  refine WP.seq ?_
  refine WP.region ?_
  refine OPS.val rfl rfl rfl ((by exact Ev.loadO 1 H rfl (agg_run rfl) (size_run rfl) (by rfl) rfl)) ?_
  refine OPS.store 0 _ rfl rfl rfl (size_run rfl) rfl (cA rfl) rfl rfl H rfl (by simp) ?_
  clear H; intro w H
  simp only [List.set_cons_zero, List.set_cons_succ] at H
  refine OPS.nil ?_
  refine WP.ret ⟨[_], ⟨(by exact resCellA 0 H rfl (agg_run rfl) (size_run rfl) (by rfl) rfl), trivial⟩, ?_⟩
  exact ⟨s2, fd2, O, X2, os.length, oc, xl2, xc2, mv2, sc2, Lx, rfl, hst2, hs26, hbs2.congr (fun o => by
    rw [ext_split hnd hin, hi]
    constructor
    · rintro ((h | h) | h)
      · exact .inl h
      · exact .inr (.inl h)
      · exact .inr (.inr h)
    · rintro (h | h | h)
      · exact .inl (.inl h)
      · exact .inl (.inr h)
      · exact .inr h), hkp, H.drop Sb.out⟩
end Go.Proofs.Ytfddebpeiilohaa

/-
  Walks: check and Moved of the reference.
-/
set_option linter.all false
namespace Go.Proofs.Ytfddebpeiilohaa
open Go Go.W Go.RowKit

set_option maxHeartbeats 2000000 in
theorem rMovedX (n hd : Int) (A B C R : Option Addr) (l : List Edg) (ts : List Truck) (ns : List Need) (rn : List Int) (ca cb cc cr : Nat) (w0 : World) (hz : EdgsAt w0 A l) (ht : RowsAt 4 truckCells w0 B ts) (hn : RowsAt 2 needCells w0 C ns) (hr : IntsAt w0 R rn) (hrl : rn.length ≤ 1000) :
    Calls Try.prog 17 #[.agg #[I n, .slice A l.length ca, .slice B ts.length cb, .slice C ns.length cc, I hd], .slice R rn.length cr] w0 fun e w' => e = .returned (.tuple #[I (movedV n l ts ns hd rn), I (movedE n l ts ns hd rn)]) ∧ Below w0.heap.size w0 w' := by
  have H := SH.refl w0
  refine Calls.ofWP Try.func17 rfl Try.results17 Try.ntmps17 rfl ?_
  refine WP.seq ?_
  refine WP.region ?_
  refine OPS.box rfl rfl rfl rfl (cA rfl) H ?_
  clear H; intro g2 w H
  refine OPS.val rfl rfl rfl (Ev.asI rfl) ?_
  refine OPS.val rfl rfl rfl (Ev.asI rfl) ?_
  refine OPS.nil ?_
  refine WP.seq ?_
  refine WP.seq ?_
  refine WP.region ?_
  refine OPS.val rfl rfl rfl ((by exact Ev.loadO 0 H rfl (agg_run rfl) (size_run rfl) (by rfl) rfl)) ?_
  refine OPS.call (d := some 10) rfl rfl rfl (EvC.func (fun_run rfl)) (r42Check n hd A B C l ts ns ca cb cc w (hz.sh H) (ht.sh H) (hn.sh H)) ?_
  rintro _ w ⟨rfl, hb⟩
  refine ⟨_, rfl, ?_⟩
  replace H := H.toBelow hb; clear hb
  refine OPS.val rfl rfl rfl (Ev.asI rfl) ?_
  refine OPS.nil ?_
  refine WP.seq ?_
  refine WP.region ?_
  refine OPS.val rfl rfl rfl (Ev.mvI rfl) ?_
  refine OPS.val rfl rfl rfl (Ev.neq rfl rfl) ?_
  refine OPS.nil ?_
  refine WP.cond rfl (fun hc2 => ?_) (fun hc2 => ?_)
  · refine WP.seq ?_
    refine WP.region ?_
    refine OPS.val rfl rfl rfl (Ev.mvI rfl) ?_
    refine OPS.val rfl rfl rfl (Ev.asI rfl) ?_
    refine OPS.val rfl rfl rfl (Ev.asI rfl) ?_
    refine OPS.nil ?_
    refine WP.ret ⟨_, rfl, ?_⟩
    have h : nightErr n l ts ns hd ≠ 0 := by simpa using hc2
    have he : movedE n l ts ns hd rn = nightErr n l ts ns hd := if_pos h
    exact ⟨by rw [movedV, he, if_neg h]; rfl, H.below⟩
  have h0 : nightErr n l ts ns hd = 0 := by simpa using hc2
  obtain ⟨m, rfl, hN⟩ := nightOk_of h0
  have hm : ∀ x ∈ ns, -32 ≤ x.move ∧ x.move ≤ 32 := fun x hx => (hN.nd x hx).2.2
  have hnl := hN.nl
  have he0 : movedE m l ts ns hd rn = if rn.any (outB ns.length) = true then 7 else 0 := if_neg (by simp [h0])
  refine WP.skip ?_
  refine WP.seq ?_
  refine WP.region ?_
  refine OPS.val rfl rfl rfl (Ev.asI rfl) ?_
  refine OPS.nil ?_
  refine WP.seq ?_
  refine WP.seq ?_
  refine WP.region ?_
  refine OPS.val rfl rfl rfl (Ev.asI rfl) ?_
  refine OPS.nil ?_
  refine WP.block ?_
  refine WP.loop [4, 5, 7, 8, 14, 15, 16, 17, 18, 19, 20, 21, 22, 23, 24, 25, 26, 27, 28, 29, 30, 31, 32, 33, 34, 35, 36, 37, 38, 39, 40, 41, 42, 43, 44, 45, 46, 47, 48, 49, 50, 51, 52, 53, 54, 55, 56] (fun k e w' => ∃ (j : Nat), j + k = rn.length ∧ e 8 = I j ∧ e 7 = I (mvL ns (rn.take j)) ∧ (∀ i ∈ rn.take j, outB ns.length i = false) ∧ SH w0 [] w' [⟨g2, 28, [I m, .slice A l.length ca, .slice B ts.length cb, .slice C ns.length cc, I hd]⟩]) (rn.length) (⟨0, by omega, rfl, rfl, by simp, H⟩) ?_
  clear H
  rintro k u w ⟨j, hk, h8, h7, hall, H⟩
  refine WP.know (t := 8) h8 (WP.know (t := 7) h7 ?_)
  refine WP.seq ?_
  refine WP.seq ?_
  refine WP.region ?_
  refine OPS.val rfl rfl rfl (Ev.mvI rfl) ?_
  refine OPS.val rfl rfl rfl (Ev.mvS rfl) ?_
  refine OPS.val rfl rfl rfl (Ev.len (el_run rfl) rfl) ?_
  refine OPS.val rfl rfl rfl (Ev.lss rfl rfl) ?_
  refine OPS.nil ?_
  refine WP.cond rfl (fun hc6 => ?_) (fun hc6 => ?_)
  · have hlt : j < rn.length := by simpa using hc6
    obtain ⟨br, orr, rfl, hx⟩ := hr j hlt
    have ho := outB_or ns.length rn[j]
    have htk := List.take_succ_eq_append_getElem hlt
    have hbd := mvL_bd hm (rn.take j)
    have htl : (rn.take j).length = j := by rw [List.length_take]; omega
    refine WP.skip ?_
    refine WP.seq ?_
    refine WP.block ?_
    refine WP.seq ?_
    refine WP.seq ?_
    refine WP.rstill mixed (by kernel_rfl) H ?_
    clear H; intro w hbw8 H
    refine OPS.val rfl rfl rfl (Ev.mvS rfl) ?_
    refine OPS.val rfl rfl rfl (Ev.mvI rfl) ?_
    refine OPS.val rfl rfl rfl ((by exact Ev.indexAddr1 (el_run rfl) (size_run rfl) rfl rfl rfl (by omega))) ?_
    refine OPS.val rfl rfl rfl (Ev.load1 (agg_run rfl) rfl (by exact H.ld0 (by assumption))) ?_
    refine OPS.val rfl rfl rfl (Ev.lss rfl rfl) ?_
    refine OPS.val rfl rfl rfl (Ev.mvB rfl) ?_
    refine OPS.gval rfl rfl rfl rfl rfl (fun hg => Ev.mvS (by rfl)) ?_
    refine OPS.gval rfl rfl rfl rfl rfl (fun hg => Ev.mvI (by rfl)) ?_
    refine OPS.gval rfl rfl rfl rfl rfl (fun hg => (by exact Ev.indexAddr1 (el_run rfl) (size_run rfl) (by exact gvE hg rfl) (by exact gvE hg rfl) rfl (by omega))) ?_
    refine OPS.gval rfl rfl rfl rfl rfl (fun hg => Ev.load1 (agg_run rfl) (by exact gvE hg rfl) (by exact H.ld0 (by assumption))) ?_
    refine OPS.gval rfl rfl rfl rfl rfl (fun hg => Ev.fieldAddr (fld_run rfl) (by rfl)) ?_
    refine OPS.gval rfl rfl rfl rfl rfl (fun hg => Ev.load1 (agg_run rfl) (by exact gvE hg rfl) (by exact H.ldL 0 rfl _ rfl)) ?_
    refine OPS.gval rfl rfl rfl rfl rfl (fun hg => Ev.len (el_run rfl) (by exact gvE hg rfl)) ?_
    refine OPS.gval rfl rfl rfl rfl rfl (fun hg => Ev.geq (by exact gvE hg rfl) (by exact gvE hg rfl)) ?_
    refine OPS.val rfl rfl rfl ((by exact Ev.pickOr rfl rfl rfl)) ?_
    refine OPS.nil_s ?_
    refine WP.cond rfl (fun hc8 => ?_) (fun hc8 => ?_)
    · refine WP.seq ?_
      refine WP.region ?_
      refine OPS.val rfl rfl rfl (Ev.asI rfl) ?_
      refine OPS.val rfl rfl rfl (Ev.asI rfl) ?_
      refine OPS.nil ?_
      refine WP.ret ⟨_, rfl, ?_⟩
      have h : outB ns.length rn[j] = true := by rw [ho]; simpa using hc8
      have he : movedE m l ts ns hd rn = 7 := by rw [he0, if_pos (List.any_eq_true.2 ⟨_, List.getElem_mem hlt, h⟩)]
      exact ⟨by rw [movedV, he, if_neg (by decide)]; rfl, H.below⟩
    have h : outB ns.length rn[j] = false := by rw [ho]; simpa using hc8
    have hin : 0 ≤ rn[j] ∧ rn[j] < ns.length := by rw [ho] at h; simp at h; omega
    obtain ⟨i, hi⟩ := Int.eq_ofNat_of_zero_le hin.1
    have hil : i < ns.length := by omega
    obtain ⟨bn, on, rfl, hy⟩ := hn i hil
    obtain ⟨q1, q2, _⟩ := hy
    have hmv := hm ns[i] (List.getElem_mem hil)
    have hsn := mvL_snoc ns (rn.take j) rn[j]
    rw [← htk, hi, needAt_eq hil] at hsn
    have hx2 := hx
    rw [hi] at hx2
    rw [hi]
    clear hx
    generalize ns[i] = x at *
    refine WP.skip ?_
    refine WP.rstill mixed (by kernel_rfl) H ?_
    clear H; intro w hbw10 H
    refine OPS.val rfl rfl rfl (Ev.mvI rfl) ?_
    refine OPS.val rfl rfl rfl (Ev.fieldAddr (fld_run rfl) rfl) ?_
    refine OPS.val rfl rfl rfl (Ev.load1 (agg_run rfl) rfl (by exact H.ldL 0 rfl _ rfl)) ?_
    refine OPS.val rfl rfl rfl (Ev.mvS rfl) ?_
    refine OPS.val rfl rfl rfl (Ev.mvI rfl) ?_
    refine OPS.val rfl rfl rfl ((by exact Ev.indexAddr1 (el_run rfl) (size_run rfl) rfl rfl rfl (by omega))) ?_
    refine OPS.val rfl rfl rfl (Ev.load1 (agg_run rfl) rfl (by exact H.ld0 (by assumption))) ?_
    refine OPS.val rfl rfl rfl ((by exact Ev.indexAddr (el_run rfl) (size_run rfl) rfl rfl rfl (by omega))) ?_
    refine OPS.val rfl rfl rfl (Ev.fieldAddr (fld_run rfl) rfl) ?_
    refine OPS.val rfl rfl rfl (Ev.load1 (agg_run rfl) rfl (by exact H.ld0 (by assumption))) ?_
    refine OPS.val rfl rfl rfl (Ev.fieldAddr (fld_run rfl) rfl) ?_
    refine OPS.val rfl rfl rfl (Ev.load1 (agg_run rfl) rfl (by exact H.ldL 0 rfl _ rfl)) ?_
    refine OPS.val rfl rfl rfl (Ev.mvS rfl) ?_
    refine OPS.val rfl rfl rfl (Ev.mvI rfl) ?_
    refine OPS.val rfl rfl rfl ((by exact Ev.indexAddr1 (el_run rfl) (size_run rfl) rfl rfl rfl (by omega))) ?_
    refine OPS.val rfl rfl rfl (Ev.load1 (agg_run rfl) rfl (by exact H.ld0 (by assumption))) ?_
    refine OPS.val rfl rfl rfl ((by exact Ev.indexAddr (el_run rfl) (size_run rfl) rfl rfl rfl (by omega))) ?_
    refine OPS.val rfl rfl rfl (Ev.fieldAddr (fld_run rfl) rfl) ?_
    refine OPS.val rfl rfl rfl (Ev.load1 (agg_run rfl) rfl (by exact H.ld0 (by assumption))) ?_
    refine OPS.val rfl rfl rfl (Ev.neg rfl (by unfold fits; omega)) ?_
    refine OPS.val rfl rfl rfl (Ev.max rfl rfl) ?_
    refine OPS.val rfl rfl rfl (Ev.add rfl rfl (by unfold fits; omega)) ?_
    refine OPS.val rfl rfl rfl (Ev.asI rfl) ?_
    refine OPS.nil_s ?_
    refine WP.region ?_
    refine OPS.val rfl rfl rfl (Ev.mvI rfl) ?_
    refine OPS.val rfl rfl rfl (Ev.add rfl rfl (by unfold fits; omega)) ?_
    refine OPS.val rfl rfl rfl (Ev.asI rfl) ?_
    refine OPS.nil ?_
    exact ⟨(by repeat (first | exact Agree.refl _ _ | exact Agree.mix _ _ _ | refine Agree.upd rfl ?_ | refine Agree.mix2 rfl ?_)), k - 1, by omega, j + 1, by omega, rfl, (by rw [hsn]; rfl), (fun i hi => by
      rw [htk, List.mem_append, List.mem_singleton] at hi
      rcases hi with hi | rfl
      · exact hall i hi
      · exact h), H⟩
  refine WP.exit ?_
  refine XB.hit ?_
  refine WP.seq ?_
  refine WP.region ?_
  refine OPS.val rfl rfl rfl (Ev.mvI rfl) ?_
  refine OPS.val rfl rfl rfl (Ev.asI rfl) ?_
  refine OPS.val rfl rfl rfl (Ev.asI rfl) ?_
  refine OPS.nil ?_
  refine WP.ret ⟨_, rfl, ?_⟩
  have hj : j = rn.length := by simp at hc6; omega
  subst hj
  rw [List.take_length] at hall
  rw [List.take_length]
  have he : movedE m l ts ns hd rn = 0 := by rw [he0, if_neg (by rw [List.any_eq_true]; rintro ⟨i, h1, h2⟩; rw [hall i h1] at h2; cases h2)]
  exact ⟨by rw [movedV, he, if_pos rfl]; rfl, H.below⟩
end Go.Proofs.Ytfddebpeiilohaa

/-
  Walk: check of the reference.
-/
set_option linter.all false
namespace Go.Proofs.Ytfddebpeiilohaa
open Go Go.W Go.RowKit

set_option maxHeartbeats 2000000 in
theorem rCheck (n hd rt : Int) (A B C R : Option Addr) (l : List Edg) (ts : List Truck) (ns : List Need) (rn : List Int) (ca cb cc cr : Nat) (w0 : World) (hz : EdgsAt w0 A l) (ht : RowsAt 4 truckCells w0 B ts) (hn : RowsAt 2 needCells w0 C ns) (hr : IntsAt w0 R rn) (hrl : rn.length ≤ 1000) :
    Calls Try.prog 25 #[.agg #[I n, .slice A l.length ca, .slice B ts.length cb, .slice C ns.length cc, I hd], I rt, .slice R rn.length cr] w0 fun e w' => e = .returned (I (askErr n l ts ns hd rt rn)) ∧ Below w0.heap.size w0 w' := by
  have H := SH.refl w0
  refine Calls.ofWP Try.func25 rfl Try.results25 Try.ntmps25 rfl ?_
  refine WP.seq ?_
  refine WP.region ?_
  refine OPS.box rfl rfl rfl rfl (cA rfl) H ?_
  clear H; intro g3 w H
  refine OPS.val rfl rfl rfl (Ev.asI rfl) ?_
  refine OPS.nil ?_
  refine WP.seq ?_
  refine WP.seq ?_
  refine WP.region ?_
  refine OPS.val rfl rfl rfl ((by exact Ev.loadO 0 H rfl (agg_run rfl) (size_run rfl) (by rfl) rfl)) ?_
  refine OPS.call (d := some 12) rfl rfl rfl (EvC.func (fun_run rfl)) (r42Check n hd A B C l ts ns ca cb cc w (hz.sh H) (ht.sh H) (hn.sh H)) ?_
  rintro _ w ⟨rfl, hb⟩
  refine ⟨_, rfl, ?_⟩
  replace H := H.toBelow hb; clear hb
  refine OPS.val rfl rfl rfl (Ev.asI rfl) ?_
  refine OPS.nil ?_
  refine WP.seq ?_
  refine WP.region ?_
  refine OPS.val rfl rfl rfl (Ev.mvI rfl) ?_
  refine OPS.val rfl rfl rfl (Ev.neq rfl rfl) ?_
  refine OPS.nil ?_
  refine WP.cond rfl (fun hc2 => ?_) (fun hc2 => ?_)
  · refine WP.seq ?_
    refine WP.region ?_
    refine OPS.val rfl rfl rfl (Ev.mvI rfl) ?_
    refine OPS.val rfl rfl rfl (Ev.asI rfl) ?_
    refine OPS.nil ?_
    refine WP.ret ⟨_, rfl, ?_⟩
    have h : nightErr n l ts ns hd ≠ 0 := by simpa using hc2
    exact ⟨by rw [askErr, if_pos h]; rfl, H.below⟩
  have h0 : nightErr n l ts ns hd = 0 := by simpa using hc2
  obtain ⟨m, rfl, hN⟩ := nightOk_of h0
  have he0 : askErr m l ts ns hd rt rn = if routeErr ts ns rt rn ≠ 0 then routeErr ts ns rt rn else if 6 < rn.length then 8 else 0 := by rw [askErr, if_neg (by simp [h0])]
  have hout := outB_or ts.length rt
  refine WP.skip ?_
  refine WP.seq ?_
  refine WP.seq ?_
  refine WP.region ?_
  refine OPS.val rfl rfl rfl (Ev.mvI rfl) ?_
  refine OPS.val rfl rfl rfl (Ev.lss rfl rfl) ?_
  refine OPS.val rfl rfl rfl (Ev.mvB rfl) ?_
  refine OPS.gval rfl rfl rfl rfl rfl (fun hg => Ev.mvI (by rfl)) ?_
  refine OPS.gval rfl rfl rfl rfl rfl (fun hg => Ev.fieldAddr (fld_run rfl) (by rfl)) ?_
  refine OPS.gval rfl rfl rfl rfl rfl (fun hg => Ev.load1 (agg_run rfl) (by exact gvE hg rfl) (by exact H.ldL 0 rfl _ rfl)) ?_
  refine OPS.gval rfl rfl rfl rfl rfl (fun hg => Ev.len (el_run rfl) (by exact gvE hg rfl)) ?_
  refine OPS.gval rfl rfl rfl rfl rfl (fun hg => Ev.geq (by exact gvE hg rfl) (by exact gvE hg rfl)) ?_
  refine OPS.val rfl rfl rfl ((by exact Ev.pickOr rfl rfl rfl)) ?_
  refine OPS.nil ?_
  refine WP.cond rfl (fun hc4 => ?_) (fun hc4 => ?_)
  · refine WP.seq ?_
    refine WP.region ?_
    refine OPS.val rfl rfl rfl (Ev.asI rfl) ?_
    refine OPS.nil ?_
    refine WP.ret ⟨_, rfl, ?_⟩
    have he : routeErr ts ns rt rn = 7 := by
      unfold routeErr
      rw [if_pos (.inl (by rw [hout]; simpa using hc4))]
    exact ⟨by rw [he0, he]; rfl, H.below⟩
  have hno : outB ts.length rt = false := by rw [hout]; simpa using hc4
  refine WP.skip ?_
  refine WP.seq ?_
  refine WP.seq ?_
  refine WP.region ?_
  refine OPS.val rfl rfl rfl (Ev.asI rfl) ?_
  refine OPS.nil ?_
  refine WP.block ?_
  refine WP.loop [6, 8, 25, 26, 27, 28, 29, 30, 31, 32, 33, 34, 35, 36, 37, 38, 39, 40, 41, 42, 43, 44, 45] (fun k e w' => ∃ (j : Nat), j + k = rn.length ∧ e 8 = I j ∧ (∀ i ∈ rn.take j, outB ns.length i = false) ∧ SH w0 [] w' [⟨g3, 28, [I m, .slice A l.length ca, .slice B ts.length cb, .slice C ns.length cc, I hd]⟩]) (rn.length) (⟨0, by omega, rfl, by simp, H⟩) ?_
  clear H
  rintro k u w ⟨j, hk, h8, hall, H⟩
  refine WP.know (t := 8) h8 ?_
  refine WP.seq ?_
  refine WP.seq ?_
  refine WP.region ?_
  refine OPS.val rfl rfl rfl (Ev.mvI rfl) ?_
  refine OPS.val rfl rfl rfl (Ev.mvS rfl) ?_
  refine OPS.val rfl rfl rfl (Ev.len (el_run rfl) rfl) ?_
  refine OPS.val rfl rfl rfl (Ev.lss rfl rfl) ?_
  refine OPS.nil ?_
  refine WP.cond rfl (fun hc7 => ?_) (fun hc7 => ?_)
  · have hlt : j < rn.length := by simpa using hc7
    obtain ⟨br, orr, rfl, hx⟩ := hr j hlt
    have ho := outB_or ns.length rn[j]
    have htk := List.take_succ_eq_append_getElem hlt
    refine WP.skip ?_
    refine WP.seq ?_
    refine WP.block ?_
    refine WP.seq ?_
    refine WP.rstill mixed (by kernel_rfl) H ?_
    clear H; intro w hbw9 H
    refine OPS.val rfl rfl rfl (Ev.mvS rfl) ?_
    refine OPS.val rfl rfl rfl (Ev.mvI rfl) ?_
    refine OPS.val rfl rfl rfl ((by exact Ev.indexAddr1 (el_run rfl) (size_run rfl) rfl rfl rfl (by omega))) ?_
    refine OPS.val rfl rfl rfl (Ev.load1 (agg_run rfl) rfl (by exact H.ld0 (by assumption))) ?_
    refine OPS.val rfl rfl rfl (Ev.lss rfl rfl) ?_
    refine OPS.val rfl rfl rfl (Ev.mvB rfl) ?_
    refine OPS.gval rfl rfl rfl rfl rfl (fun hg => Ev.mvS (by rfl)) ?_
    refine OPS.gval rfl rfl rfl rfl rfl (fun hg => Ev.mvI (by rfl)) ?_
    refine OPS.gval rfl rfl rfl rfl rfl (fun hg => (by exact Ev.indexAddr1 (el_run rfl) (size_run rfl) (by exact gvE hg rfl) (by exact gvE hg rfl) rfl (by omega))) ?_
    refine OPS.gval rfl rfl rfl rfl rfl (fun hg => Ev.load1 (agg_run rfl) (by exact gvE hg rfl) (by exact H.ld0 (by assumption))) ?_
    refine OPS.gval rfl rfl rfl rfl rfl (fun hg => Ev.fieldAddr (fld_run rfl) (by rfl)) ?_
    refine OPS.gval rfl rfl rfl rfl rfl (fun hg => Ev.load1 (agg_run rfl) (by exact gvE hg rfl) (by exact H.ldL 0 rfl _ rfl)) ?_
    refine OPS.gval rfl rfl rfl rfl rfl (fun hg => Ev.len (el_run rfl) (by exact gvE hg rfl)) ?_
    refine OPS.gval rfl rfl rfl rfl rfl (fun hg => Ev.geq (by exact gvE hg rfl) (by exact gvE hg rfl)) ?_
    refine OPS.val rfl rfl rfl ((by exact Ev.pickOr rfl rfl rfl)) ?_
    refine OPS.nil_s ?_
    refine WP.cond rfl (fun hc9 => ?_) (fun hc9 => ?_)
    · refine WP.seq ?_
      refine WP.region ?_
      refine OPS.val rfl rfl rfl (Ev.asI rfl) ?_
      refine OPS.nil ?_
      refine WP.ret ⟨_, rfl, ?_⟩
      have h : outB ns.length rn[j] = true := by rw [ho]; simpa using hc9
      have he : routeErr ts ns rt rn = 7 := by
        unfold routeErr
        rw [if_pos (.inr (List.any_eq_true.2 ⟨_, List.getElem_mem hlt, h⟩))]
      exact ⟨by rw [he0, he]; rfl, H.below⟩
    have h : outB ns.length rn[j] = false := by rw [ho]; simpa using hc9
    refine WP.skip ?_
    refine WP.region ?_
    refine OPS.val rfl rfl rfl (Ev.mvI rfl) ?_
    refine OPS.val rfl rfl rfl (Ev.add rfl rfl (by unfold fits; omega)) ?_
    refine OPS.val rfl rfl rfl (Ev.asI rfl) ?_
    refine OPS.nil ?_
    exact ⟨(by repeat (first | exact Agree.refl _ _ | exact Agree.mix _ _ _ | refine Agree.upd rfl ?_ | refine Agree.mix2 rfl ?_)), k - 1, by omega, j + 1, by omega, rfl, (fun i hi => by
      rw [htk, List.mem_append, List.mem_singleton] at hi
      rcases hi with hi | rfl
      · exact hall i hi
      · exact h), H⟩
  have hj : j = rn.length := by simp at hc7; omega
  subst hj
  rw [List.take_length] at hall
  have he1 : routeErr ts ns rt rn = if twiceB rn = true then 6 else 0 := by
    unfold routeErr
    rw [if_neg]
    rintro (h | h)
    · rw [hno] at h; cases h
    · obtain ⟨i, h1, h2⟩ := List.any_eq_true.1 h
      rw [hall i h1] at h2; cases h2
  refine WP.exit ?_
  refine XB.hit ?_
  refine WP.seq ?_
  refine WP.seq ?_
  refine WP.region ?_
  refine OPS.val rfl rfl rfl (Ev.asI rfl) ?_
  refine OPS.nil ?_
  refine WP.block ?_
  refine WP.loop [6, 9, 10, 46, 47, 48, 49, 50, 51, 52, 53, 54, 55, 56, 57, 58, 59, 60, 61, 62, 63, 64, 65] (fun k e w' => ∃ (j : Nat), j + k = rn.length ∧ e 9 = I j ∧ (rn.take j).Nodup ∧ SH w0 [] w' [⟨g3, 28, [I m, .slice A l.length ca, .slice B ts.length cb, .slice C ns.length cc, I hd]⟩]) (rn.length) (⟨0, by omega, rfl, by simp, H⟩) ?_
  clear H
  rintro k2 u2 w ⟨j, hk2, h9, hnd, H⟩
  refine WP.know (t := 9) h9 ?_
  refine WP.seq ?_
  refine WP.seq ?_
  refine WP.region ?_
  refine OPS.val rfl rfl rfl (Ev.mvI rfl) ?_
  refine OPS.val rfl rfl rfl (Ev.mvS rfl) ?_
  refine OPS.val rfl rfl rfl (Ev.len (el_run rfl) rfl) ?_
  refine OPS.val rfl rfl rfl (Ev.lss rfl rfl) ?_
  refine OPS.nil ?_
  refine WP.cond rfl (fun hc12 => ?_) (fun hc12 => ?_)
  · have hlt : j < rn.length := by simpa using hc12
    obtain ⟨br, orr, rfl, hx⟩ := hr j hlt
    have htk := List.take_succ_eq_append_getElem hlt
    refine WP.skip ?_
    refine WP.seq ?_
    refine WP.block ?_
    refine WP.seq ?_
    refine WP.region ?_
    refine OPS.val rfl rfl rfl (Ev.asI rfl) ?_
    refine OPS.nil ?_
    refine WP.block ?_
    refine WP.loop [6, 10, 52, 53, 54, 55, 56, 57, 58, 59, 60, 61, 62, 63, 64, 65] (fun k e w' => ∃ (p : Nat), p + k = j ∧ e 10 = I p ∧ rn[j] ∉ rn.take p ∧ SH w0 [] w' [⟨g3, 28, [I m, .slice A l.length ca, .slice B ts.length cb, .slice C ns.length cc, I hd]⟩]) (j) (⟨0, by omega, rfl, by simp, H⟩) ?_
    clear H
    rintro k3 u3 w ⟨p, hk3, h10, hni, H⟩
    refine WP.know (t := 10) h10 ?_
    refine WP.seq ?_
    refine WP.seq ?_
    refine WP.region ?_
    refine OPS.val rfl rfl rfl (Ev.mvI rfl) ?_
    refine OPS.val rfl rfl rfl (Ev.mvI rfl) ?_
    refine OPS.val rfl rfl rfl (Ev.lss rfl rfl) ?_
    refine OPS.nil ?_
    refine WP.cond rfl (fun hc15 => ?_) (fun hc15 => ?_)
    · have hlt3 : p < j := by simpa using hc15
      have hy : w0.cell? ⟨br, orr + p, none⟩ = some (I rn[p]) := by
        obtain ⟨b3, o3, e3, hz⟩ := hr p (by omega)
        cases e3; exact hz
      have htk3 := List.take_succ_eq_append_getElem (show p < rn.length by omega)
      refine WP.skip ?_
      refine WP.seq ?_
      refine WP.block ?_
      refine WP.seq ?_
      refine WP.rstill mixed (by kernel_rfl) H ?_
      clear H; intro w hbw17 H
      refine OPS.val rfl rfl rfl (Ev.mvS rfl) ?_
      refine OPS.val rfl rfl rfl (Ev.mvI rfl) ?_
      refine OPS.val rfl rfl rfl ((by exact Ev.indexAddr1 (el_run rfl) (size_run rfl) rfl rfl rfl (by omega))) ?_
      refine OPS.val rfl rfl rfl (Ev.load1 (agg_run rfl) rfl (by exact H.ld0 (by assumption))) ?_
      refine OPS.val rfl rfl rfl (Ev.mvS rfl) ?_
      refine OPS.val rfl rfl rfl (Ev.mvI rfl) ?_
      refine OPS.val rfl rfl rfl ((by exact Ev.indexAddr1 (el_run rfl) (size_run rfl) rfl rfl rfl (by omega))) ?_
      refine OPS.val rfl rfl rfl (Ev.load1 (agg_run rfl) rfl (by exact H.ld0 (by assumption))) ?_
      refine OPS.val rfl rfl rfl (Ev.eql rfl rfl) ?_
      refine OPS.nil_s ?_
      refine WP.cond rfl (fun hc17 => ?_) (fun hc17 => ?_)
      · refine WP.seq ?_
        refine WP.region ?_
        refine OPS.val rfl rfl rfl (Ev.asI rfl) ?_
        refine OPS.nil ?_
        refine WP.ret ⟨_, rfl, ?_⟩
        have heq : rn[p] = rn[j] := by simpa using hc17
        have hnn : ¬ rn.Nodup := fun h => by
          have := (List.getElem_inj h).1 heq
          omega
        have he : routeErr ts ns rt rn = 6 := by rw [he1, if_pos (by unfold twiceB; simpa using hnn)]
        exact ⟨by rw [he0, he]; rfl, H.below⟩
      have hne : ¬ rn[p] = rn[j] := by simpa using hc17
      refine WP.skip ?_
      refine WP.region ?_
      refine OPS.val rfl rfl rfl (Ev.mvI rfl) ?_
      refine OPS.val rfl rfl rfl (Ev.add rfl rfl (by unfold fits; omega)) ?_
      refine OPS.val rfl rfl rfl (Ev.asI rfl) ?_
      refine OPS.nil ?_
      exact ⟨(by repeat (first | exact Agree.refl _ _ | exact Agree.mix _ _ _ | refine Agree.upd rfl ?_ | refine Agree.mix2 rfl ?_)), k3 - 1, by omega, p + 1, by omega, rfl, (by
        rw [htk3, List.mem_append, List.mem_singleton]
        rintro (h | h)
        · exact hni h
        · exact hne h.symm), H⟩
    have hp : p = j := by simp at hc15; omega
    subst hp
    refine WP.exit ?_
    refine XB.hit ?_
    refine WP.region ?_
    refine OPS.val rfl rfl rfl (Ev.mvI rfl) ?_
    refine OPS.val rfl rfl rfl (Ev.add rfl rfl (by unfold fits; omega)) ?_
    refine OPS.val rfl rfl rfl (Ev.asI rfl) ?_
    refine OPS.nil ?_
    exact ⟨(by repeat (first | exact Agree.refl _ _ | exact Agree.mix _ _ _ | refine Agree.upd rfl ?_ | refine Agree.mix2 rfl ?_)), k2 - 1, by omega, p + 1, by omega, rfl, (by
      rw [htk, List.nodup_append]
      exact ⟨hnd, by simp, fun x hx y hy he => by simp at hy; subst hy he; exact hni hx⟩), H⟩
  have hj : j = rn.length := by simp at hc12; omega
  rw [hj, List.take_length] at hnd
  have he : routeErr ts ns rt rn = 0 := by rw [he1, if_neg (by unfold twiceB; simpa using hnd)]
  refine WP.exit ?_
  refine XB.hit ?_
  refine WP.seq ?_
  refine WP.seq ?_
  refine WP.region ?_
  refine OPS.val rfl rfl rfl (Ev.mvS rfl) ?_
  refine OPS.val rfl rfl rfl (Ev.len (el_run rfl) rfl) ?_
  refine OPS.val rfl rfl rfl (Ev.gtr rfl rfl) ?_
  refine OPS.nil ?_
  refine WP.cond rfl (fun hc19 => ?_) (fun hc19 => ?_)
  · refine WP.seq ?_
    refine WP.region ?_
    refine OPS.val rfl rfl rfl (Ev.asI rfl) ?_
    refine OPS.nil ?_
    refine WP.ret ⟨_, rfl, ?_⟩
    exact ⟨by rw [he0, he, if_neg (by simp), if_pos (by simp at hc19; omega)]; rfl, H.below⟩
  refine WP.skip ?_
  refine WP.seq ?_
  refine WP.region ?_
  refine OPS.val rfl rfl rfl (Ev.asI rfl) ?_
  refine OPS.nil ?_
  refine WP.ret ⟨_, rfl, ?_⟩
  exact ⟨by rw [he0, he, if_neg (by simp), if_neg (by simp at hc19; omega)]; rfl, H.below⟩
end Go.Proofs.Ytfddebpeiilohaa

/-
  Walk: the law RouteBest.
-/
set_option linter.all false
namespace Go.Proofs.Ytfddebpeiilohaa
open Go Go.W Go.RowKit

theorem fewL_iff (a b c d : Nat) : fewL a b c d = true ↔ a ≤ 600 ∧ b ≤ 20 ∧ c ≤ 30 ∧ d ≤ 10 := by unfold fewL fewB; simp; omega
theorem ownS_le {A : Option Addr} {cap n el sz : Nat} {xs : List Value} {Lo : List Blk} (h : OwnS A cap n xs el sz Lo) : n ≤ cap := by
  rcases h.form with ⟨_, h, _⟩ | ⟨_, _, _, _, h, _⟩
  · omega
  · exact h
section
variable {n : Int} {l : List Edg} {ts : List Truck} {ns : List Need} {hd rt : Int} {rn : List Int}
theorem BestAns.bad {er r0 : Int} {x : List Int} (h : BestAns n l ts ns hd rt rn er r0 x) (he : er ≠ 0) (o : List Int) : x = [] ∧ (er = 10 → eachB o rn = true → o.length = rn.length → walkE n l ts ns hd rt o ≠ 0) := by
  cases h with
  | no h => exact ⟨rfl, fun h10 => absurd h10 askErr_ne⟩
  | empty h hb =>
    refine ⟨rfl, fun _ h1 h2 h3 => ?_⟩
    obtain ⟨m, rfl, hk⟩ := askOk_of h
    have h4 := of_decide_eq_true h1
    exact hb o ⟨sub_full hk.nd h4.1 h4.2 h2, h3⟩
  | ok => exact absurd rfl he
theorem BestAns.good {r0 : Int} {x : List Int} (h : BestAns n l ts ns hd rt rn 0 r0 x) : askErr n l ts ns hd rt rn = 0 ∧ r0 = rt ∧ IsBest (mvL ns) (secsD n l ts ns hd rt) (CandP n l ts ns hd rt rn) (some x) := by
  generalize he : (0 : Int) = er at h
  cases h with
  | no h => exact absurd he.symm h
  | empty h hb => cases he
  | ok h x hb => exact ⟨h, rfl, hb⟩
end
set_option maxHeartbeats 4000000 in
theorem lawBest (n hd rt : Int) (A B C R O : Option Addr) (l : List Edg) (ts : List Truck) (ns : List Need) (rn o : List Int) (ca cb cc cr co : Nat) (w0 : World) (hz : EdgsAt w0 A l) (ht : RowsAt 4 truckCells w0 B ts) (hn : RowsAt 2 needCells w0 C ns) (hcc : ns.length ≤ cc) (hr : IntsAt w0 R rn) (ho : IntsAt w0 O o) (hco : o.length ≤ co) :
    Calls Try.prog 5 #[.agg #[I n, .slice A l.length ca, .slice B ts.length cb, .slice C ns.length cc, I hd], .agg #[I rt, .slice R rn.length cr], .slice O o.length co] w0 fun e w' => e = .returned (.bool true) ∧ Below w0.heap.size w0 w' := by
  have H := SH.refl w0
  refine Calls.ofWP Try.func5 rfl Try.results5 Try.ntmps5 rfl ?_
  refine WP.seq ?_
  refine WP.region ?_
  refine OPS.box rfl rfl rfl rfl (cA rfl) H ?_
  clear H; intro g3 w H
  refine OPS.box rfl rfl rfl rfl (cA rfl) H ?_
  clear H; intro g4 w H
  refine OPS.val rfl rfl rfl (Ev.asB rfl) ?_
  refine OPS.nil ?_
  refine WP.seq ?_
  refine WP.seq ?_
  refine WP.region ?_
  refine OPS.val rfl rfl rfl ((by exact Ev.loadO 1 H rfl (agg_run rfl) (size_run rfl) (by rfl) rfl)) ?_
  refine OPS.val rfl rfl rfl ((by exact Ev.loadO 0 H rfl (agg_run rfl) (size_run rfl) (by rfl) rfl)) ?_
  refine OPS.call (d := some 17) rfl rfl rfl (EvC.func (fun_run rfl)) (lawFew n hd rt A B C R l.length ts.length ns.length rn.length ca cb cc cr w) ?_
  rintro _ w ⟨rfl, hb⟩
  refine ⟨_, rfl, ?_⟩
  replace H := H.toBelow hb; clear hb
  refine OPS.val rfl rfl rfl (Ev.not rfl) ?_
  refine OPS.val rfl rfl rfl (Ev.mvB rfl) ?_
  refine OPS.gval rfl rfl rfl rfl rfl (fun hg => Ev.mvS (by rfl)) ?_
  refine OPS.gval rfl rfl rfl rfl rfl (fun hg => Ev.len (el_run rfl) (by exact gvE hg rfl)) ?_
  refine OPS.gval rfl rfl rfl rfl rfl (fun hg => Ev.gtr (by exact gvE hg rfl) (by rfl)) ?_
  refine OPS.val rfl rfl rfl ((by exact Ev.pickOr rfl rfl rfl)) ?_
  refine OPS.nil ?_
  refine WP.cond rfl (fun hc1 => ?_) (fun hc1 => ?_)
  · refine WP.seq ?_
    refine WP.region ?_
    refine OPS.call (d := some 24) rfl rfl rfl (EvC.func (fun_run rfl)) (lawAwakeR w) ?_
    rintro _ w ⟨rfl, hb⟩
    refine ⟨_, rfl, ?_⟩
    replace H := H.toBelow hb; clear hb
    refine OPS.val rfl rfl rfl (Ev.asB rfl) ?_
    refine OPS.nil ?_
    refine WP.ret ⟨_, rfl, ?_⟩
    exact ⟨rfl, H.below⟩
  have hlen : rn.length ≤ 10 ∧ o.length ≤ 10 := by
    simp only [Bool.or_eq_false_iff, Bool.not_eq_false', decide_eq_false_iff_not] at hc1
    have := (fewL_iff _ _ _ _).1 hc1.1
    omega
  refine WP.skip ?_
  refine WP.seq ?_
  refine WP.region ?_
  refine OPS.val rfl rfl rfl ((by exact Ev.loadO 1 H rfl (agg_run rfl) (size_run rfl) (by rfl) rfl)) ?_
  refine OPS.val rfl rfl rfl (Ev.fieldAddr (fld_run rfl) rfl) ?_
  refine OPS.val rfl rfl rfl (Ev.load1 (agg_run rfl) rfl (by exact H.ldL 0 rfl _ rfl)) ?_
  refine OPS.val rfl rfl rfl (Ev.fieldAddr (fld_run rfl) rfl) ?_
  refine OPS.val rfl rfl rfl (Ev.load1 (agg_run rfl) rfl (by exact H.ldL 0 rfl _ rfl)) ?_
  refine OPS.call (d := some 31) rfl rfl rfl (EvC.func (fun_run rfl)) (routeBestX n hd rt A B C R l ts ns rn ca cb cc cr w (hz.sh H) (ht.sh H) (hn.sh H) hcc (hr.sh H) (by omega)) ?_
  rintro _ w ⟨er, r0, x, X, cx, Lf, rfl, hA, hOX, Hc⟩
  refine ⟨_, rfl, ?_⟩
  replace H := SH.call (L1 := [_, _]) (Lv := []) H Hc
  clear Hc
  simp only [List.cons_append, List.nil_append] at H
  refine OPS.val rfl rfl rfl (Ev.mvT rfl) ?_
  refine OPS.val rfl rfl rfl (Ev.extract rfl rfl) ?_
  refine OPS.val rfl rfl rfl (Ev.extract rfl rfl) ?_
  refine OPS.alloc rfl rfl rfl rfl (zero_run rfl) rfl H ?_
  clear H; intro g7 w H
  refine OPS.store 0 _ rfl rfl rfl (size_run rfl) rfl (cA rfl) rfl rfl H rfl (by simp) ?_
  clear H; intro w H; try simp only [List.set_cons_zero, List.set_cons_succ, putL, Nat.zero_add] at H
  refine OPS.val rfl rfl rfl (Ev.asI rfl) ?_
  refine OPS.nil ?_
  refine WP.seq ?_
  refine WP.region ?_
  refine OPS.val rfl rfl rfl (Ev.fieldAddr (fld_run rfl) rfl) ?_
  refine OPS.val rfl rfl rfl (Ev.load1 (agg_run rfl) rfl (by exact H.ldL 1 rfl _ rfl)) ?_
  refine OPS.val rfl rfl rfl (Ev.mvS rfl) ?_
  refine OPS.val rfl rfl rfl (Ev.build (bld_34_0_1 rfl rfl)) ?_
  refine OPS.alloc rfl rfl rfl rfl (zero_run rfl) rfl H ?_
  clear H; intro g9 w H
  refine OPS.store 0 _ rfl rfl rfl (size_run rfl) rfl (cA rfl) rfl rfl H rfl (by simp) ?_
  clear H; intro w H; try simp only [List.set_cons_zero, List.set_cons_succ, putL, Nat.zero_add] at H
  refine OPS.nil ?_
  refine WP.seq ?_
  refine WP.region ?_
  refine OPS.val rfl rfl rfl (Ev.mvS rfl) ?_
  refine OPS.val rfl rfl rfl (Ev.fieldAddr (fld_run rfl) rfl) ?_
  refine OPS.val rfl rfl rfl (Ev.load1 (agg_run rfl) rfl (by exact H.ldL 2 rfl _ rfl)) ?_
  refine OPS.call (d := some 41) rfl rfl rfl (EvC.func (fun_run rfl)) (lawEach O R o rn co cr w (ho.sh H) (hr.sh H) (by omega) (by omega)) ?_
  rintro _ w ⟨rfl, hb⟩
  refine ⟨_, rfl, ?_⟩
  replace H := H.toBelow hb; clear hb
  refine OPS.val rfl rfl rfl (Ev.mvB rfl) ?_
  refine OPS.gval rfl rfl rfl rfl rfl (fun hg => Ev.mvS (by rfl)) ?_
  refine OPS.gval rfl rfl rfl rfl rfl (fun hg => Ev.len (el_run rfl) (by exact gvE hg rfl)) ?_
  refine OPS.gval rfl rfl rfl rfl rfl (fun hg => Ev.fieldAddr (fld_run rfl) (by rfl)) ?_
  refine OPS.gval rfl rfl rfl rfl rfl (fun hg => Ev.load1 (agg_run rfl) (by exact gvE hg rfl) (by exact H.ldL 2 rfl _ rfl)) ?_
  refine OPS.gval rfl rfl rfl rfl rfl (fun hg => Ev.len (el_run rfl) (by exact gvE hg rfl)) ?_
  refine OPS.gval rfl rfl rfl rfl rfl (fun hg => Ev.eql (by exact gvE hg rfl) (by exact gvE hg rfl)) ?_
  refine OPS.val rfl rfl rfl ((by exact Ev.pickAnd rfl rfl rfl)) ?_
  refine OPS.val rfl rfl rfl (Ev.asB rfl) ?_
  refine OPS.nil ?_
  refine WP.seq ?_
  refine WP.region ?_
  refine OPS.val rfl rfl rfl ((by exact Ev.loadO 3 H rfl (agg_run rfl) (size_run rfl) (by rfl) rfl)) ?_
  refine OPS.val rfl rfl rfl ((by exact Ev.loadO 0 H rfl (agg_run rfl) (size_run rfl) (by rfl) rfl)) ?_
  refine OPS.call (d := some 53) rfl rfl rfl (EvC.func (fun_run rfl)) (truckDriving n hd rt A B C O l ts ns o ca cb cc co w (hz.sh H) (ht.sh H) (hn.sh H) hcc (ho.sh H) (by unfold maxLen; omega) hco) ?_
  rintro _ w ⟨rfl, hb⟩
  refine ⟨_, rfl, ?_⟩
  replace H := H.toBelow hb; clear hb
  refine OPS.val rfl rfl rfl (Ev.mvT rfl) ?_
  refine OPS.val rfl rfl rfl (Ev.extract rfl rfl) ?_
  refine OPS.val rfl rfl rfl (Ev.extract rfl rfl) ?_
  refine OPS.val rfl rfl rfl (Ev.asI rfl) ?_
  refine OPS.val rfl rfl rfl (Ev.asI rfl) ?_
  refine OPS.nil ?_
  refine WP.seq ?_
  refine WP.seq ?_
  refine WP.region ?_
  refine OPS.val rfl rfl rfl (Ev.mvI rfl) ?_
  refine OPS.val rfl rfl rfl (Ev.neq rfl rfl) ?_
  refine OPS.nil ?_
  refine WP.cond rfl (fun hc7 => ?_) (fun hc7 => ?_)
  · have he : er ≠ 0 := by simpa using hc7
    obtain ⟨hx, hbad⟩ := hA.bad he o
    subst hx
    refine WP.seq ?_
    refine WP.region ?_
    refine OPS.val rfl rfl rfl (Ev.fieldAddr (fld_run rfl) rfl) ?_
    refine OPS.val rfl rfl rfl (Ev.load1 (agg_run rfl) rfl (by exact H.ldL 1 rfl _ rfl)) ?_
    refine OPS.val rfl rfl rfl (Ev.len (el_run rfl) rfl) ?_
    refine OPS.val rfl rfl rfl (Ev.eql rfl rfl) ?_
    refine OPS.val rfl rfl rfl (Ev.mvB rfl) ?_
    refine OPS.gval rfl rfl rfl rfl rfl (fun hg => Ev.mvI (by rfl)) ?_
    refine OPS.gval rfl rfl rfl rfl rfl (fun hg => Ev.neq (by exact gvE hg rfl) (by rfl)) ?_
    refine OPS.gval rfl rfl rfl rfl rfl (fun hg => Ev.mvB (by exact gvE hg rfl)) ?_
    refine OPS.gvalN rfl rfl (GB.g rfl) rfl rfl (fun hg => Ev.mvB (by rfl)) ?_
    refine OPS.gvalN rfl rfl (GB.g rfl) rfl rfl (fun hg => Ev.not (by exact gvE hg rfl)) ?_
    refine OPS.gval rfl rfl rfl rfl rfl (fun hg => (by exact Ev.pickOr2 (beqT hg) (gvE hg rfl) rfl rfl)) ?_
    refine OPS.gval rfl rfl rfl rfl rfl (fun hg => Ev.mvB (by exact gvE hg rfl)) ?_
    refine OPS.gvalN rfl rfl (GB.g rfl) rfl rfl (fun hg => Ev.mvI (by rfl)) ?_
    refine OPS.gvalN rfl rfl (GB.g rfl) rfl rfl (fun hg => Ev.neq (by exact gvE hg rfl) (by rfl)) ?_
    refine OPS.gval rfl rfl rfl rfl rfl (fun hg => (by exact Ev.pickOr2 (beqT hg) (gvE hg rfl) rfl rfl)) ?_
    refine OPS.val rfl rfl rfl ((by exact Ev.pickAnd rfl rfl rfl)) ?_
    refine OPS.val rfl rfl rfl (Ev.mvB rfl) ?_
    refine OPS.gcall0 (f := 10) (lawAwakeR w) (fun _ _ h => h) rfl rfl rfl rfl rfl (fun hg => (EvC.func (fun_run rfl))) ?_
    intro w hbc; replace H := H.toBelow hbc
    refine OPS.val rfl rfl rfl ((by exact Ev.pickAnd rfl rfl rfl)) ?_
    refine OPS.val rfl rfl rfl (Ev.asB rfl) ?_
    refine OPS.nil ?_
    refine WP.ret ⟨_, rfl, ?_⟩
    refine ⟨ret_b rfl ?_, H.below⟩
    have he' : ¬ er = 0 := he
    by_cases h10 : er = 10
    · by_cases he1 : eachB o rn = true
      · by_cases he2 : o.length = rn.length
        · have := hbad h10 he1 he2
          simp [h10, he1, he2, this]
        · simp [h10, he1, he2]; omega
      · simp [h10, he1]
    · simp [h10]
  have he : er = 0 := by simpa using hc7
  subst he
  obtain ⟨h0, hr0, hb⟩ := hA.good
  subst hr0
  obtain ⟨m, rfl, hk⟩ := askOk_of h0
  have hxl : x.length = rn.length := hb.1.1.length_eq
  have hxe : eachB x rn = true := decide_eq_true ⟨hb.1.1.nodup_iff.2 hk.nd, fun i hi => hb.1.1.mem_iff.1 hi⟩
  have hxw := hb.1.2
  have hI := (hOX.ones (R := [_, _, _, _]) H).1
  have hcx := ownS_le hOX
  refine WP.skip ?_
  refine WP.seq ?_
  refine WP.region ?_
  refine OPS.val rfl rfl rfl ((by exact Ev.loadO 3 H rfl (agg_run rfl) (size_run rfl) (by rfl) rfl)) ?_
  refine OPS.val rfl rfl rfl ((by exact Ev.loadO 1 H rfl (agg_run rfl) (size_run rfl) (by rfl) rfl)) ?_
  refine OPS.call (d := some 80) rfl rfl rfl (EvC.func (fun_run rfl)) (truckDriving m hd r0 A B C X l ts ns x ca cb cc cx w (hz.sh H) (ht.sh H) (hn.sh H) hcc hI (by unfold maxLen; omega) hcx) ?_
  rintro _ w ⟨rfl, hb⟩
  refine ⟨_, rfl, ?_⟩
  replace H := H.toBelow hb; clear hb
  refine OPS.val rfl rfl rfl (Ev.mvT rfl) ?_
  refine OPS.val rfl rfl rfl (Ev.extract rfl rfl) ?_
  refine OPS.val rfl rfl rfl (Ev.extract rfl rfl) ?_
  refine OPS.val rfl rfl rfl (Ev.asI rfl) ?_
  refine OPS.val rfl rfl rfl (Ev.asI rfl) ?_
  refine OPS.nil ?_
  refine WP.seq ?_
  refine WP.seq ?_
  refine WP.region ?_
  refine OPS.val rfl rfl rfl (Ev.fieldAddr (fld_run rfl) rfl) ?_
  refine OPS.val rfl rfl rfl (Ev.load1 (agg_run rfl) rfl (by exact H.ldL 1 rfl _ rfl)) ?_
  refine OPS.val rfl rfl rfl (Ev.fieldAddr (fld_run rfl) rfl) ?_
  refine OPS.val rfl rfl rfl (Ev.load1 (agg_run rfl) rfl (by exact H.ldL 2 rfl _ rfl)) ?_
  refine OPS.val rfl rfl rfl (Ev.neq rfl rfl) ?_
  refine OPS.val rfl rfl rfl (Ev.mvB rfl) ?_
  refine OPS.gval rfl rfl rfl rfl rfl (fun hg => Ev.fieldAddr (fld_run rfl) (by rfl)) ?_
  refine OPS.gval rfl rfl rfl rfl rfl (fun hg => Ev.load1 (agg_run rfl) (by exact gvE hg rfl) (by exact H.ldL 1 rfl _ rfl)) ?_
  refine OPS.gval rfl rfl rfl rfl rfl (fun hg => Ev.len (el_run rfl) (by exact gvE hg rfl)) ?_
  refine OPS.gval rfl rfl rfl rfl rfl (fun hg => Ev.fieldAddr (fld_run rfl) (by rfl)) ?_
  refine OPS.gval rfl rfl rfl rfl rfl (fun hg => Ev.load1 (agg_run rfl) (by exact gvE hg rfl) (by exact H.ldL 2 rfl _ rfl)) ?_
  refine OPS.gval rfl rfl rfl rfl rfl (fun hg => Ev.len (el_run rfl) (by exact gvE hg rfl)) ?_
  refine OPS.gval rfl rfl rfl rfl rfl (fun hg => Ev.neq (by exact gvE hg rfl) (by exact gvE hg rfl)) ?_
  refine OPS.val rfl rfl rfl ((by exact Ev.pickOr rfl rfl rfl)) ?_
  refine OPS.val rfl rfl rfl (Ev.mvB rfl) ?_
  refine OPS.gval rfl rfl rfl rfl rfl (fun hg => Ev.fieldAddr (fld_run rfl) (by rfl)) ?_
  refine OPS.gval rfl rfl rfl rfl rfl (fun hg => Ev.load1 (agg_run rfl) (by exact gvE hg rfl) (by exact H.ldL 1 rfl _ rfl)) ?_
  refine OPS.gval rfl rfl rfl rfl rfl (fun hg => Ev.fieldAddr (fld_run rfl) (by rfl)) ?_
  refine OPS.gval rfl rfl rfl rfl rfl (fun hg => Ev.load1 (agg_run rfl) (by exact gvE hg rfl) (by exact H.ldL 2 rfl _ rfl)) ?_
  refine OPS.gcall0 (f := 18) (lawEach X R x rn cx cr w (hOX.ones (R := [_, _, _, _]) H).1 (hr.sh H) (by omega) (by omega)) (fun _ _ h => h) rfl rfl rfl rfl rfl (fun hg => EvC.conv (EvC.func (fun_run rfl)) (l2 (by exact gvE hg rfl) (by exact gvE hg rfl))) ?_
  intro w hbc; replace H := H.toBelow hbc
  refine OPS.gval rfl rfl rfl rfl rfl (fun hg => Ev.not (by exact gvE hg rfl)) ?_
  refine OPS.val rfl rfl rfl ((by exact Ev.pickOr rfl rfl rfl)) ?_
  refine OPS.val rfl rfl rfl (Ev.mvB rfl) ?_
  refine OPS.gval rfl rfl rfl rfl rfl (fun hg => Ev.mvI (by rfl)) ?_
  refine OPS.gval rfl rfl rfl rfl rfl (fun hg => Ev.neq (by exact gvE hg rfl) (by rfl)) ?_
  refine OPS.val rfl rfl rfl ((by exact Ev.pickOr rfl rfl rfl)) ?_
  refine OPS.nil ?_
  refine WP.cond rfl (fun hc10 => ?_) (fun hc10 => ?_)
  · refine WP.seq ?_
    refine WP.region ?_
    refine OPS.val rfl rfl rfl (Ev.asB rfl) ?_
    refine OPS.nil ?_
    refine WP.ret ⟨_, rfl, ?_⟩
    simp [hxl, hxe, hxw] at hc10
  refine WP.skip ?_
  refine WP.seq ?_
  refine WP.seq ?_
  refine WP.region ?_
  refine OPS.val rfl rfl rfl (Ev.mvB rfl) ?_
  refine OPS.val rfl rfl rfl (Ev.not rfl) ?_
  refine OPS.val rfl rfl rfl (Ev.mvB rfl) ?_
  refine OPS.gval rfl rfl rfl rfl rfl (fun hg => Ev.mvI (by rfl)) ?_
  refine OPS.gval rfl rfl rfl rfl rfl (fun hg => Ev.neq (by exact gvE hg rfl) (by rfl)) ?_
  refine OPS.val rfl rfl rfl ((by exact Ev.pickOr rfl rfl rfl)) ?_
  refine OPS.nil ?_
  refine WP.cond rfl (fun hc12 => ?_) (fun hc12 => ?_)
  · refine WP.seq ?_
    refine WP.region ?_
    refine OPS.call (d := some 115) rfl rfl rfl (EvC.func (fun_run rfl)) (lawAwakeR w) ?_
    rintro _ w ⟨rfl, hb⟩
    refine ⟨_, rfl, ?_⟩
    replace H := H.toBelow hb; clear hb
    refine OPS.val rfl rfl rfl (Ev.asB rfl) ?_
    refine OPS.nil ?_
    refine WP.ret ⟨_, rfl, ?_⟩
    exact ⟨rfl, H.below⟩
  have hal : (eachB o rn = true ∧ o.length = rn.length) ∧ walkE m l ts ns hd r0 o = 0 := by
    by_cases he1 : eachB o rn = true
    · by_cases he2 : o.length = rn.length
      · by_cases he3 : walkE m l ts ns hd r0 o = 0
        · exact ⟨⟨he1, he2⟩, he3⟩
        · simp [he1, he2, he3] at hc12
      · simp [he1, he2] at hc12; omega
    · simp [he1] at hc12
  have ho2 := of_decide_eq_true hal.1.1
  have hop := sub_full hk.nd ho2.1 ho2.2 hal.1.2
  have hw := hb.2 o ⟨hop, hal.2⟩
  have hme : mvL ns x = mvL ns o := (mvL_perm hb.1.1).trans (mvL_perm hop).symm
  have hd1 : ¬ outD m l ts ns hd r0 o < outD m l ts ns hd r0 x := fun h => hw (.inr ⟨hme, .inl h⟩)
  have hd2 : outD m l ts ns hd r0 o = outD m l ts ns hd r0 x → lexB o x = false := fun h => by
    cases hq : lexB o x with
    | false => rfl
    | true => exact absurd (.inr ⟨hme, .inr ⟨h, hq⟩⟩) hw
  refine WP.skip ?_
  refine WP.seq ?_
  refine WP.region ?_
  refine OPS.val rfl rfl rfl (Ev.mvI rfl) ?_
  refine OPS.val rfl rfl rfl (Ev.mvI rfl) ?_
  refine OPS.val rfl rfl rfl (Ev.leq rfl rfl) ?_
  refine OPS.val rfl rfl rfl (Ev.mvB rfl) ?_
  refine OPS.gval rfl rfl rfl rfl rfl (fun hg => Ev.mvI (by rfl)) ?_
  refine OPS.gval rfl rfl rfl rfl rfl (fun hg => Ev.mvI (by rfl)) ?_
  refine OPS.gval rfl rfl rfl rfl rfl (fun hg => Ev.lss (by exact gvE hg rfl) (by exact gvE hg rfl)) ?_
  refine OPS.gval rfl rfl rfl rfl rfl (fun hg => Ev.mvB (by exact gvE hg rfl)) ?_
  refine OPS.gvalN rfl rfl (GB.g rfl) rfl rfl (fun hg => Ev.mvS (by rfl)) ?_
  refine OPS.gvalN rfl rfl (GB.g rfl) rfl rfl (fun hg => Ev.fieldAddr (fld_run rfl) (by rfl)) ?_
  refine OPS.gvalN rfl rfl (GB.g rfl) rfl rfl (fun hg => Ev.load1 (agg_run rfl) (by exact gvE hg rfl) (by exact H.ldL 1 rfl _ rfl)) ?_
  have hbf := rBefore O X o x co cx w (ho.sh H) (hOX.ones (R := [_, _, _, _]) H).1 (by omega) (by omega)
  refine OPS.gcallN (α := Unit) (f := 20) (args := [.slice O o.length co, .slice X x.length cx]) (fun _ => .bool (lexB o x)) (fun _ _ => True) (fun hg => hbf.mono fun e w' ⟨he, hb⟩ => ⟨(), he, trivial, hb⟩) rfl rfl (GB.g rfl) rfl rfl (fun hg => EvC.conv (EvC.func (fun_run rfl)) (l2 (gvE hg rfl) (gvE hg rfl))) ?_
  intro _ w _ hbc; replace H := H.toBelow hbc; clear hbf hbc
  refine OPS.gvalN rfl rfl (GB.g rfl) rfl rfl (fun hg => Ev.not (by exact gvE hg rfl)) ?_
  refine OPS.gval rfl rfl rfl rfl rfl (fun hg => (by exact Ev.pickOr2 (beqT hg) (gvE hg rfl) rfl rfl)) ?_
  refine OPS.val rfl rfl rfl ((by exact Ev.pickAnd rfl rfl rfl)) ?_
  refine OPS.val rfl rfl rfl (Ev.mvB rfl) ?_
  refine OPS.gcall0 (f := 10) (lawAwakeR _) (fun _ _ h => h) rfl rfl rfl rfl rfl (fun hg => (EvC.func (fun_run rfl))) ?_
  intro w hbc; replace H := H.toBelow hbc
  refine OPS.val rfl rfl rfl ((by exact Ev.pickAnd rfl rfl rfl)) ?_
  refine OPS.val rfl rfl rfl (Ev.asB rfl) ?_
  refine OPS.nil ?_
  refine WP.ret ⟨_, rfl, ?_⟩
  refine ⟨ret_b rfl ?_, H.below⟩
  by_cases hq : outD m l ts ns hd r0 x < outD m l ts ns hd r0 o
  · have hle : outD m l ts ns hd r0 x ≤ outD m l ts ns hd r0 o := by omega
    simp [hq, hle]
  · have hle : outD m l ts ns hd r0 x ≤ outD m l ts ns hd r0 o := by omega
    have := hd2 (by omega)
    simp [hq, hle, this]
end Go.Proofs.Ytfddebpeiilohaa

/-
  Walk: the law RouteMost.
-/
set_option linter.all false
namespace Go.Proofs.Ytfddebpeiilohaa
open Go Go.W Go.RowKit

section
variable {n : Int} {l : List Edg} {ts : List Truck} {ns : List Need} {hd rt : Int} {rn : List Int}
theorem MostAns.bad {er r0 : Int} {x : List Int} (h : MostAns n l ts ns hd rt rn er r0 x) (he : er ≠ 0) : x = [] ∧ er ≠ 10 ∧ askErr n l ts ns hd rt rn = er := by
  cases h with
  | no h => exact ⟨rfl, askErr_ne, rfl⟩
  | ok => exact absurd rfl he
theorem MostAns.good {r0 : Int} {x : List Int} (h : MostAns n l ts ns hd rt rn 0 r0 x) : askErr n l ts ns hd rt rn = 0 ∧ r0 = rt ∧ IsBest (mvL ns) (secsD n l ts ns hd rt) (SubP n l ts ns hd rt rn) (some x) := by
  generalize he : (0 : Int) = er at h
  cases h with
  | no h => exact absurd he.symm h
  | ok h s hb =>
    refine ⟨h, rfl, ?_⟩
    cases s with
    | none =>
      obtain ⟨m, rfl, hk⟩ := askOk_of h
      exact absurd ⟨⟨by simp, by simp⟩, hk.nil⟩ (hb [])
    | some x => exact hb
theorem AskOk.moved {m : Nat} (h : AskOk m l ts ns hd rt rn) {o : List Int} (ho : ∀ i ∈ o, i ∈ rn) : movedE m l ts ns hd o = 0 ∧ movedV m l ts ns hd o = mvL ns o := by
  have h1 : movedE m l ts ns hd o = 0 := by
    rw [movedE, if_neg (by rw [h.night]; decide), if_neg]
    rw [List.any_eq_true]
    rintro ⟨i, h1, h2⟩
    have := h.inr i (ho i h1)
    rw [outB_or] at h2
    simp at h2; omega
  exact ⟨h1, by rw [movedV, if_pos h1]⟩
end
set_option maxHeartbeats 4000000 in
theorem lawMost (n hd rt : Int) (A B C R O : Option Addr) (l : List Edg) (ts : List Truck) (ns : List Need) (rn o : List Int) (ca cb cc cr co : Nat) (w0 : World) (hz : EdgsAt w0 A l) (ht : RowsAt 4 truckCells w0 B ts) (hn : RowsAt 2 needCells w0 C ns) (hcc : ns.length ≤ cc) (hr : IntsAt w0 R rn) (ho : IntsAt w0 O o) (hco : o.length ≤ co) :
    Calls Try.prog 6 #[.agg #[I n, .slice A l.length ca, .slice B ts.length cb, .slice C ns.length cc, I hd], .agg #[I rt, .slice R rn.length cr], .slice O o.length co] w0 fun e w' => e = .returned (.bool true) ∧ Below w0.heap.size w0 w' := by
  have H := SH.refl w0
  refine Calls.ofWP Try.func6 rfl Try.results6 Try.ntmps6 rfl ?_
  refine WP.seq ?_
  refine WP.region ?_
  refine OPS.box rfl rfl rfl rfl (cA rfl) H ?_
  clear H; intro g3 w H
  refine OPS.box rfl rfl rfl rfl (cA rfl) H ?_
  clear H; intro g4 w H
  refine OPS.val rfl rfl rfl (Ev.asB rfl) ?_
  refine OPS.nil ?_
  refine WP.seq ?_
  refine WP.seq ?_
  refine WP.region ?_
  refine OPS.val rfl rfl rfl ((by exact Ev.loadO 1 H rfl (agg_run rfl) (size_run rfl) (by rfl) rfl)) ?_
  refine OPS.val rfl rfl rfl ((by exact Ev.loadO 0 H rfl (agg_run rfl) (size_run rfl) (by rfl) rfl)) ?_
  refine OPS.call (d := some 19) rfl rfl rfl (EvC.func (fun_run rfl)) (lawFew n hd rt A B C R l.length ts.length ns.length rn.length ca cb cc cr w) ?_
  rintro _ w ⟨rfl, hb⟩
  refine ⟨_, rfl, ?_⟩
  replace H := H.toBelow hb; clear hb
  refine OPS.val rfl rfl rfl (Ev.not rfl) ?_
  refine OPS.val rfl rfl rfl (Ev.mvB rfl) ?_
  refine OPS.gval rfl rfl rfl rfl rfl (fun hg => Ev.mvS (by rfl)) ?_
  refine OPS.gval rfl rfl rfl rfl rfl (fun hg => Ev.len (el_run rfl) (by exact gvE hg rfl)) ?_
  refine OPS.gval rfl rfl rfl rfl rfl (fun hg => Ev.gtr (by exact gvE hg rfl) (by rfl)) ?_
  refine OPS.val rfl rfl rfl ((by exact Ev.pickOr rfl rfl rfl)) ?_
  refine OPS.nil ?_
  refine WP.cond rfl (fun hc1 => ?_) (fun hc1 => ?_)
  · refine WP.seq ?_
    refine WP.region ?_
    refine OPS.call (d := some 26) rfl rfl rfl (EvC.func (fun_run rfl)) (lawAwakeR w) ?_
    rintro _ w ⟨rfl, hb⟩
    refine ⟨_, rfl, ?_⟩
    replace H := H.toBelow hb; clear hb
    refine OPS.val rfl rfl rfl (Ev.asB rfl) ?_
    refine OPS.nil ?_
    refine WP.ret ⟨_, rfl, ?_⟩
    exact ⟨rfl, H.below⟩
  have hlen : rn.length ≤ 10 ∧ o.length ≤ 10 := by
    simp only [Bool.or_eq_false_iff, Bool.not_eq_false', decide_eq_false_iff_not] at hc1
    have := (fewL_iff _ _ _ _).1 hc1.1
    omega
  refine WP.skip ?_
  refine WP.seq ?_
  refine WP.region ?_
  refine OPS.val rfl rfl rfl ((by exact Ev.loadO 1 H rfl (agg_run rfl) (size_run rfl) (by rfl) rfl)) ?_
  refine OPS.val rfl rfl rfl (Ev.fieldAddr (fld_run rfl) rfl) ?_
  refine OPS.val rfl rfl rfl (Ev.load1 (agg_run rfl) rfl (by exact H.ldL 0 rfl _ rfl)) ?_
  refine OPS.val rfl rfl rfl (Ev.fieldAddr (fld_run rfl) rfl) ?_
  refine OPS.val rfl rfl rfl (Ev.load1 (agg_run rfl) rfl (by exact H.ldL 0 rfl _ rfl)) ?_
  refine OPS.call (d := some 33) rfl rfl rfl (EvC.func (fun_run rfl)) (routeMostX n hd rt A B C R l ts ns rn ca cb cc cr w (hz.sh H) (ht.sh H) (hn.sh H) hcc (hr.sh H) (by omega)) ?_
  rintro _ w ⟨er, r0, x, X, cx, Lf, rfl, hA, hOX, Hc⟩
  refine ⟨_, rfl, ?_⟩
  replace H := SH.call (L1 := [_, _]) (Lv := []) H Hc
  clear Hc
  simp only [List.cons_append, List.nil_append] at H
  refine OPS.val rfl rfl rfl (Ev.mvT rfl) ?_
  refine OPS.val rfl rfl rfl (Ev.extract rfl rfl) ?_
  refine OPS.val rfl rfl rfl (Ev.extract rfl rfl) ?_
  refine OPS.alloc rfl rfl rfl rfl (zero_run rfl) rfl H ?_
  clear H; intro g7 w H
  refine OPS.store 0 _ rfl rfl rfl (size_run rfl) rfl (cA rfl) rfl rfl H rfl (by simp) ?_
  clear H; intro w H; try simp only [List.set_cons_zero, List.set_cons_succ, putL, Nat.zero_add] at H
  refine OPS.val rfl rfl rfl (Ev.asI rfl) ?_
  refine OPS.nil ?_
  refine WP.seq ?_
  refine WP.seq ?_
  refine WP.region ?_
  refine OPS.val rfl rfl rfl (Ev.mvI rfl) ?_
  refine OPS.val rfl rfl rfl (Ev.neq rfl rfl) ?_
  refine OPS.nil ?_
  refine WP.cond rfl (fun hc4 => ?_) (fun hc4 => ?_)
  · have he : er ≠ 0 := by simpa using hc4
    obtain ⟨hx, hbad, _⟩ := hA.bad he
    subst hx
    refine WP.seq ?_
    refine WP.region ?_
    refine OPS.val rfl rfl rfl (Ev.fieldAddr (fld_run rfl) rfl) ?_
    refine OPS.val rfl rfl rfl (Ev.load1 (agg_run rfl) rfl (by exact H.ldL 0 rfl _ rfl)) ?_
    refine OPS.val rfl rfl rfl (Ev.len (el_run rfl) rfl) ?_
    refine OPS.val rfl rfl rfl (Ev.eql rfl rfl) ?_
    refine OPS.val rfl rfl rfl (Ev.mvB rfl) ?_
    refine OPS.gval rfl rfl rfl rfl rfl (fun hg => Ev.mvI (by rfl)) ?_
    refine OPS.gval rfl rfl rfl rfl rfl (fun hg => Ev.neq (by exact gvE hg rfl) (by rfl)) ?_
    refine OPS.val rfl rfl rfl ((by exact Ev.pickAnd rfl rfl rfl)) ?_
    refine OPS.val rfl rfl rfl (Ev.mvB rfl) ?_
    refine OPS.gcall0 (f := 10) (lawAwakeR _) (fun _ _ h => h) rfl rfl rfl rfl rfl (fun hg => (EvC.func (fun_run rfl))) ?_
    intro w hbc; replace H := H.toBelow hbc
    refine OPS.val rfl rfl rfl ((by exact Ev.pickAnd rfl rfl rfl)) ?_
    refine OPS.val rfl rfl rfl (Ev.asB rfl) ?_
    refine OPS.nil ?_
    refine WP.ret ⟨_, rfl, ?_⟩
    refine ⟨ret_b rfl ?_, H.below⟩
    simp [hbad]
  have he : er = 0 := by simpa using hc4
  subst he
  obtain ⟨h0, hr0, hb⟩ := hA.good
  subst hr0
  obtain ⟨m, rfl, hk⟩ := askOk_of h0
  obtain ⟨⟨hx1, hx2⟩, hxw⟩ := hb.1
  have hxl : x.length ≤ 10 := by
    obtain ⟨s, _, hp⟩ := part_of hk.nd hx1 hx2
    have := (pickS_sub rn s).length_le
    rw [hp.length_eq]; omega
  have hxe : eachB x rn = true := decide_eq_true ⟨hx1, hx2⟩
  obtain ⟨hme, hmv⟩ := hk.moved hx2
  have hcx := ownS_le hOX
  refine WP.skip ?_
  refine WP.seq ?_
  refine WP.region ?_
  refine OPS.val rfl rfl rfl ((by exact Ev.loadO 2 H rfl (agg_run rfl) (size_run rfl) (by rfl) rfl)) ?_
  refine OPS.val rfl rfl rfl ((by exact Ev.loadO 0 H rfl (agg_run rfl) (size_run rfl) (by rfl) rfl)) ?_
  refine OPS.call (d := some 52) rfl rfl rfl (EvC.func (fun_run rfl)) (truckDriving m hd r0 A B C X l ts ns x ca cb cc cx w (hz.sh H) (ht.sh H) (hn.sh H) hcc (hOX.ones (R := [_, _, _]) H).1 (by unfold maxLen; omega) hcx) ?_
  rintro _ w ⟨rfl, hb⟩
  refine ⟨_, rfl, ?_⟩
  replace H := H.toBelow hb; clear hb
  refine OPS.val rfl rfl rfl (Ev.mvT rfl) ?_
  refine OPS.val rfl rfl rfl (Ev.extract rfl rfl) ?_
  refine OPS.val rfl rfl rfl (Ev.extract rfl rfl) ?_
  refine OPS.val rfl rfl rfl (Ev.asI rfl) ?_
  refine OPS.val rfl rfl rfl (Ev.asI rfl) ?_
  refine OPS.nil ?_
  refine WP.seq ?_
  refine WP.region ?_
  refine OPS.val rfl rfl rfl ((by exact Ev.loadO 2 H rfl (agg_run rfl) (size_run rfl) (by rfl) rfl)) ?_
  refine OPS.val rfl rfl rfl (Ev.fieldAddr (fld_run rfl) rfl) ?_
  refine OPS.val rfl rfl rfl (Ev.load1 (agg_run rfl) rfl (by exact H.ldL 0 rfl _ rfl)) ?_
  refine OPS.call (d := some 59) rfl rfl rfl (EvC.func (fun_run rfl)) (routeMovedX m hd A B C X l ts ns x ca cb cc cx w (hz.sh H) (ht.sh H) (hn.sh H) hcc (hOX.ones (R := [_, _, _]) H).1 (by omega)) ?_
  rintro _ w ⟨rfl, hb⟩
  refine ⟨_, rfl, ?_⟩
  replace H := H.toBelow hb; clear hb
  refine OPS.val rfl rfl rfl (Ev.mvT rfl) ?_
  refine OPS.val rfl rfl rfl (Ev.extract rfl rfl) ?_
  refine OPS.val rfl rfl rfl (Ev.extract rfl rfl) ?_
  refine OPS.val rfl rfl rfl (Ev.asI rfl) ?_
  refine OPS.val rfl rfl rfl (Ev.asI rfl) ?_
  refine OPS.nil ?_
  refine WP.seq ?_
  refine WP.seq ?_
  refine WP.region ?_
  refine OPS.val rfl rfl rfl (Ev.mvI rfl) ?_
  refine OPS.val rfl rfl rfl (Ev.neq rfl rfl) ?_
  refine OPS.val rfl rfl rfl (Ev.mvB rfl) ?_
  refine OPS.gval rfl rfl rfl rfl rfl (fun hg => Ev.mvI (by rfl)) ?_
  refine OPS.gval rfl rfl rfl rfl rfl (fun hg => Ev.neq (by exact gvE hg rfl) (by rfl)) ?_
  refine OPS.val rfl rfl rfl ((by exact Ev.pickOr rfl rfl rfl)) ?_
  refine OPS.val rfl rfl rfl (Ev.mvB rfl) ?_
  refine OPS.gval rfl rfl rfl rfl rfl (fun hg => Ev.fieldAddr (fld_run rfl) (by rfl)) ?_
  refine OPS.gval rfl rfl rfl rfl rfl (fun hg => Ev.load1 (agg_run rfl) (by exact gvE hg rfl) (by exact H.ldL 0 rfl _ rfl)) ?_
  refine OPS.gval rfl rfl rfl rfl rfl (fun hg => Ev.fieldAddr (fld_run rfl) (by rfl)) ?_
  refine OPS.gval rfl rfl rfl rfl rfl (fun hg => Ev.load1 (agg_run rfl) (by exact gvE hg rfl) (by exact H.ldL 1 rfl _ rfl)) ?_
  refine OPS.gval rfl rfl rfl rfl rfl (fun hg => Ev.neq (by exact gvE hg rfl) (by exact gvE hg rfl)) ?_
  refine OPS.val rfl rfl rfl ((by exact Ev.pickOr rfl rfl rfl)) ?_
  refine OPS.val rfl rfl rfl (Ev.mvB rfl) ?_
  refine OPS.gval rfl rfl rfl rfl rfl (fun hg => Ev.fieldAddr (fld_run rfl) (by rfl)) ?_
  refine OPS.gval rfl rfl rfl rfl rfl (fun hg => Ev.load1 (agg_run rfl) (by exact gvE hg rfl) (by exact H.ldL 0 rfl _ rfl)) ?_
  refine OPS.gval rfl rfl rfl rfl rfl (fun hg => Ev.fieldAddr (fld_run rfl) (by rfl)) ?_
  refine OPS.gval rfl rfl rfl rfl rfl (fun hg => Ev.load1 (agg_run rfl) (by exact gvE hg rfl) (by exact H.ldL 1 rfl _ rfl)) ?_
  refine OPS.gcall0 (f := 18) (lawEach X R x rn cx cr w (hOX.ones (R := [_, _, _]) H).1 (hr.sh H) (by omega) (by omega)) (fun _ _ h => h) rfl rfl rfl rfl rfl (fun hg => EvC.conv (EvC.func (fun_run rfl)) (l2 (by exact gvE hg rfl) (by exact gvE hg rfl))) ?_
  intro w hbc; replace H := H.toBelow hbc
  refine OPS.gval rfl rfl rfl rfl rfl (fun hg => Ev.not (by exact gvE hg rfl)) ?_
  refine OPS.val rfl rfl rfl ((by exact Ev.pickOr rfl rfl rfl)) ?_
  refine OPS.nil ?_
  refine WP.cond rfl (fun hc8 => ?_) (fun hc8 => ?_)
  · refine WP.seq ?_
    refine WP.region ?_
    refine OPS.val rfl rfl rfl (Ev.asB rfl) ?_
    refine OPS.nil ?_
    refine WP.ret ⟨_, rfl, ?_⟩
    simp [hxe, hxw, hme] at hc8
  refine WP.skip ?_
  refine WP.seq ?_
  refine WP.region ?_
  refine OPS.val rfl rfl rfl ((by exact Ev.loadO 2 H rfl (agg_run rfl) (size_run rfl) (by rfl) rfl)) ?_
  refine OPS.val rfl rfl rfl (Ev.fieldAddr (fld_run rfl) rfl) ?_
  refine OPS.val rfl rfl rfl (Ev.load1 (agg_run rfl) rfl (by exact H.ldL 1 rfl _ rfl)) ?_
  refine OPS.val rfl rfl rfl (Ev.mvS rfl) ?_
  refine OPS.val rfl rfl rfl (Ev.build (bld_34_0_1 rfl rfl)) ?_
  refine OPS.call (d := some 89) rfl rfl rfl (EvC.func (fun_run rfl)) (truckDriving m hd r0 A B C O l ts ns o ca cb cc co w (hz.sh H) (ht.sh H) (hn.sh H) hcc (ho.sh H) (by unfold maxLen; omega) hco) ?_
  rintro _ w ⟨rfl, hb⟩
  refine ⟨_, rfl, ?_⟩
  replace H := H.toBelow hb; clear hb
  refine OPS.val rfl rfl rfl (Ev.mvT rfl) ?_
  refine OPS.val rfl rfl rfl (Ev.extract rfl rfl) ?_
  refine OPS.val rfl rfl rfl (Ev.extract rfl rfl) ?_
  refine OPS.val rfl rfl rfl (Ev.asI rfl) ?_
  refine OPS.val rfl rfl rfl (Ev.asI rfl) ?_
  refine OPS.nil ?_
  refine WP.seq ?_
  refine WP.seq ?_
  refine WP.region ?_
  refine OPS.val rfl rfl rfl (Ev.mvI rfl) ?_
  refine OPS.val rfl rfl rfl (Ev.neq rfl rfl) ?_
  refine OPS.val rfl rfl rfl (Ev.mvB rfl) ?_
  refine OPS.gval rfl rfl rfl rfl rfl (fun hg => Ev.mvS (by rfl)) ?_
  refine OPS.gval rfl rfl rfl rfl rfl (fun hg => Ev.fieldAddr (fld_run rfl) (by rfl)) ?_
  refine OPS.gval rfl rfl rfl rfl rfl (fun hg => Ev.load1 (agg_run rfl) (by exact gvE hg rfl) (by exact H.ldL 1 rfl _ rfl)) ?_
  refine OPS.gcall0 (f := 18) (lawEach O R o rn co cr w (ho.sh H) (hr.sh H) (by omega) (by omega)) (fun _ _ h => h) rfl rfl rfl rfl rfl (fun hg => EvC.conv (EvC.func (fun_run rfl)) (l2 (by exact gvE hg rfl) (by exact gvE hg rfl))) ?_
  intro w hbc; replace H := H.toBelow hbc
  refine OPS.gval rfl rfl rfl rfl rfl (fun hg => Ev.not (by exact gvE hg rfl)) ?_
  refine OPS.val rfl rfl rfl ((by exact Ev.pickOr rfl rfl rfl)) ?_
  refine OPS.nil ?_
  refine WP.cond rfl (fun hc11 => ?_) (fun hc11 => ?_)
  · refine WP.seq ?_
    refine WP.region ?_
    refine OPS.call (d := some 101) rfl rfl rfl (EvC.func (fun_run rfl)) (lawAwakeR w) ?_
    rintro _ w ⟨rfl, hb⟩
    refine ⟨_, rfl, ?_⟩
    replace H := H.toBelow hb; clear hb
    refine OPS.val rfl rfl rfl (Ev.asB rfl) ?_
    refine OPS.nil ?_
    refine WP.ret ⟨_, rfl, ?_⟩
    exact ⟨rfl, H.below⟩
  have hal : eachB o rn = true ∧ walkE m l ts ns hd r0 o = 0 := by
    by_cases he1 : eachB o rn = true
    · by_cases he3 : walkE m l ts ns hd r0 o = 0
      · exact ⟨he1, he3⟩
      · simp [he1, he3] at hc11
    · by_cases he3 : walkE m l ts ns hd r0 o = 0
      · simp [he1, he3] at hc11
      · simp [he1, he3] at hc11
  have ho2 := of_decide_eq_true hal.1
  obtain ⟨hme2, hmv2⟩ := hk.moved ho2.2
  have hw := hb.2 o ⟨⟨ho2.1, ho2.2⟩, hal.2⟩
  have hw1 : ¬ mvL ns x < mvL ns o := fun h => hw (.inl h)
  have hw2 : mvL ns x = mvL ns o → ¬ outD m l ts ns hd r0 o < outD m l ts ns hd r0 x := fun h h2 => hw (.inr ⟨h, .inl h2⟩)
  have hw3 : mvL ns x = mvL ns o → outD m l ts ns hd r0 o = outD m l ts ns hd r0 x → lexB o x = false := fun h h2 => by
    cases hq : lexB o x with
    | false => rfl
    | true => exact absurd (.inr ⟨h, .inr ⟨h2, hq⟩⟩) hw
  refine WP.skip ?_
  refine WP.seq ?_
  refine WP.region ?_
  refine OPS.val rfl rfl rfl ((by exact Ev.loadO 2 H rfl (agg_run rfl) (size_run rfl) (by rfl) rfl)) ?_
  refine OPS.val rfl rfl rfl (Ev.mvS rfl) ?_
  refine OPS.call (d := some 105) rfl rfl rfl (EvC.func (fun_run rfl)) (routeMovedX m hd A B C O l ts ns o ca cb cc co w (hz.sh H) (ht.sh H) (hn.sh H) hcc (ho.sh H) (by omega)) ?_
  rintro _ w ⟨rfl, hb⟩
  refine ⟨_, rfl, ?_⟩
  replace H := H.toBelow hb; clear hb
  refine OPS.val rfl rfl rfl (Ev.mvT rfl) ?_
  refine OPS.val rfl rfl rfl (Ev.extract rfl rfl) ?_
  refine OPS.val rfl rfl rfl (Ev.extract rfl rfl) ?_
  refine OPS.val rfl rfl rfl (Ev.asI rfl) ?_
  refine OPS.val rfl rfl rfl (Ev.asI rfl) ?_
  refine OPS.nil ?_
  refine WP.seq ?_
  refine WP.seq ?_
  refine WP.region ?_
  refine OPS.val rfl rfl rfl (Ev.mvI rfl) ?_
  refine OPS.val rfl rfl rfl (Ev.neq rfl rfl) ?_
  refine OPS.val rfl rfl rfl (Ev.mvB rfl) ?_
  refine OPS.gval rfl rfl rfl rfl rfl (fun hg => Ev.mvI (by rfl)) ?_
  refine OPS.gval rfl rfl rfl rfl rfl (fun hg => Ev.mvI (by rfl)) ?_
  refine OPS.gval rfl rfl rfl rfl rfl (fun hg => Ev.gtr (by exact gvE hg rfl) (by exact gvE hg rfl)) ?_
  refine OPS.val rfl rfl rfl ((by exact Ev.pickOr rfl rfl rfl)) ?_
  refine OPS.nil ?_
  refine WP.cond rfl (fun hc14 => ?_) (fun hc14 => ?_)
  · refine WP.seq ?_
    refine WP.region ?_
    refine OPS.val rfl rfl rfl (Ev.asB rfl) ?_
    refine OPS.nil ?_
    refine WP.ret ⟨_, rfl, ?_⟩
    simp [hme2, hmv, hmv2] at hc14
    omega
  have hz0 : True := trivial
  refine WP.skip ?_
  refine WP.seq ?_
  refine WP.region ?_
  refine OPS.val rfl rfl rfl (Ev.mvI rfl) ?_
  refine OPS.val rfl rfl rfl (Ev.mvI rfl) ?_
  refine OPS.val rfl rfl rfl (Ev.lss rfl rfl) ?_
  refine OPS.val rfl rfl rfl (Ev.mvB rfl) ?_
  refine OPS.gval rfl rfl rfl rfl rfl (fun hg => Ev.mvI (by rfl)) ?_
  refine OPS.gval rfl rfl rfl rfl rfl (fun hg => Ev.mvI (by rfl)) ?_
  refine OPS.gval rfl rfl rfl rfl rfl (fun hg => Ev.lss (by exact gvE hg rfl) (by exact gvE hg rfl)) ?_
  refine OPS.val rfl rfl rfl ((by exact Ev.pickOr rfl rfl rfl)) ?_
  refine OPS.val rfl rfl rfl (Ev.mvB rfl) ?_
  refine OPS.gval rfl rfl rfl rfl rfl (fun hg => Ev.mvI (by rfl)) ?_
  refine OPS.gval rfl rfl rfl rfl rfl (fun hg => Ev.mvI (by rfl)) ?_
  refine OPS.gval rfl rfl rfl rfl rfl (fun hg => Ev.eql (by exact gvE hg rfl) (by exact gvE hg rfl)) ?_
  refine OPS.gval rfl rfl rfl rfl rfl (fun hg => Ev.mvB (by exact gvE hg rfl)) ?_
  refine OPS.gvalN rfl rfl (GB.g rfl) rfl rfl (fun hg => Ev.mvS (by rfl)) ?_
  refine OPS.gvalN rfl rfl (GB.g rfl) rfl rfl (fun hg => Ev.fieldAddr (fld_run rfl) (by rfl)) ?_
  refine OPS.gvalN rfl rfl (GB.g rfl) rfl rfl (fun hg => Ev.load1 (agg_run rfl) (by exact gvE hg rfl) (by exact H.ldL 0 rfl _ rfl)) ?_
  have hbf := rBefore O X o x co cx w (ho.sh H) (hOX.ones (R := [_, _, _]) H).1 (by omega) (by omega)
  refine OPS.gcallN (α := Unit) (f := 20) (args := [.slice O o.length co, .slice X x.length cx]) (fun _ => .bool (lexB o x)) (fun _ _ => True) (fun hg => hbf.mono fun e w' ⟨he, hb⟩ => ⟨(), he, trivial, hb⟩) rfl rfl (GB.g rfl) rfl rfl (fun hg => EvC.conv (EvC.func (fun_run rfl)) (l2 (gvE hg rfl) (gvE hg rfl))) ?_
  intro _ w _ hbc; replace H := H.toBelow hbc; clear hbf hbc
  refine OPS.gvalN rfl rfl (GB.g rfl) rfl rfl (fun hg => Ev.not (by exact gvE hg rfl)) ?_
  refine OPS.gval rfl rfl rfl rfl rfl (fun hg => (by exact Ev.pickAnd2 (beqT hg) (gvE hg rfl) rfl rfl)) ?_
  refine OPS.val rfl rfl rfl ((by exact Ev.pickOr rfl rfl rfl)) ?_
  refine OPS.val rfl rfl rfl (Ev.mvB rfl) ?_
  refine OPS.gcall0 (f := 10) (lawAwakeR _) (fun _ _ h => h) rfl rfl rfl rfl rfl (fun hg => (EvC.func (fun_run rfl))) ?_
  intro w hbc; replace H := H.toBelow hbc
  refine OPS.val rfl rfl rfl ((by exact Ev.pickAnd rfl rfl rfl)) ?_
  refine OPS.val rfl rfl rfl (Ev.asB rfl) ?_
  refine OPS.nil ?_
  refine WP.ret ⟨_, rfl, ?_⟩
  refine ⟨ret_b rfl ?_, H.below⟩
  rw [hmv, hmv2]
  by_cases q1 : mvL ns o < mvL ns x
  · simp [q1]
  · have q2 : mvL ns x = mvL ns o := by omega
    have q3 := hw2 q2
    by_cases q4 : outD m l ts ns hd r0 x < outD m l ts ns hd r0 o
    · simp [q1, q4]
    · have q5 : outD m l ts ns hd r0 x = outD m l ts ns hd r0 o := by omega
      have q6 := hw3 q2 q5.symm
      simp [q1, q4, q5, q6]
end Go.Proofs.Ytfddebpeiilohaa

/-
  Walk: the law RouteBoth.
-/
set_option linter.all false
namespace Go.Proofs.Ytfddebpeiilohaa
open Go Go.W Go.RowKit

section
variable {n : Int} {l : List Edg} {ts : List Truck} {ns : List Need} {hd rt : Int} {rn : List Int}
/-- a best route for all is that which moves the most -/
theorem best_most {m : Nat} (hk : AskOk m l ts ns hd rt rn) {x y : List Int} (hx : IsBest (mvL ns) (secsD m l ts ns hd rt) (CandP m l ts ns hd rt rn) (some x)) (hy : IsBest (mvL ns) (secsD m l ts ns hd rt) (SubP m l ts ns hd rt rn) (some y)) : x = y := by
  have h : IsBest (mvL ns) (secsD m l ts ns hd rt) (SubP m l ts ns hd rt rn) (some x) := by
    refine ⟨⟨⟨hx.1.1.nodup_iff.2 hk.nd, fun i hi => hx.1.1.mem_iff.1 hi⟩, hx.1.2⟩, fun o ho hw => ?_⟩
    obtain ⟨h1, h2⟩ := mvL_part hk.nd ho.1.1 ho.1.2 hk.pos
    have h3 := mvL_perm (ns := ns) hx.1.1
    by_cases hl : o.length < rn.length
    · have h4 := h2 hl
      rcases hw with hw | ⟨hw, _⟩ <;> omega
    · have h5 : o.length = rn.length := by
        obtain ⟨s, _, hp⟩ := part_of hk.nd ho.1.1 ho.1.2
        have := (pickS_sub rn s).length_le
        rw [← hp.length_eq] at this; omega
      exact hx.2 o ⟨sub_full hk.nd ho.1.1 ho.1.2 h5, ho.2⟩ hw
  have := h.unique hy
  cases this; rfl
theorem BestAns.perm {rn' : List Int} (hp : rn.Perm rn') {er r0 er' r0' : Int} {x x' : List Int} (h : BestAns n l ts ns hd rt rn er r0 x) (h' : BestAns n l ts ns hd rt rn' er' r0' x') : er = er' ∧ r0 = r0' ∧ x = x' := by
  have ha := askErr_perm (n := n) (l := l) (ts := ts) (ns := ns) (hd := hd) (rt := rt) hp
  have hc : ∀ o, CandP n l ts ns hd rt rn' o ↔ CandP n l ts ns hd rt rn o := fun o => by
    unfold CandP
    exact ⟨fun h => ⟨h.1.trans hp.symm, h.2⟩, fun h => ⟨h.1.trans hp, h.2⟩⟩
  cases h with
  | no h =>
    cases h' with
    | no h' => exact ⟨ha, rfl, rfl⟩
    | empty h' => exact absurd (ha.trans h') h
    | ok h' => exact absurd (ha.trans h') h
  | empty h hb =>
    cases h' with
    | no h' => exact absurd (ha.symm.trans h) h'
    | empty h' => exact ⟨rfl, rfl, rfl⟩
    | ok h' x' hb' => have := hb.unique (hb'.congr hc); cases this
  | ok h x hb =>
    cases h' with
    | no h' => exact absurd (ha.symm.trans h) h'
    | empty h' hb' => have := hb.unique (hb'.congr hc); cases this
    | ok h' x' hb' => have := hb.unique (hb'.congr hc); cases this; exact ⟨rfl, rfl, rfl⟩
theorem MostAns.perm {rn' : List Int} (hp : rn.Perm rn') {er r0 er' r0' : Int} {x x' : List Int} (h : MostAns n l ts ns hd rt rn er r0 x) (h' : MostAns n l ts ns hd rt rn' er' r0' x') : er = er' ∧ r0 = r0' ∧ x = x' := by
  have ha := askErr_perm (n := n) (l := l) (ts := ts) (ns := ns) (hd := hd) (rt := rt) hp
  have hc : ∀ o, SubP n l ts ns hd rt rn' o ↔ SubP n l ts ns hd rt rn o := fun o => by
    unfold SubP
    constructor
    · rintro ⟨⟨h1, h2⟩, h3⟩; exact ⟨⟨h1, fun i hi => hp.mem_iff.2 (h2 i hi)⟩, h3⟩
    · rintro ⟨⟨h1, h2⟩, h3⟩; exact ⟨⟨h1, fun i hi => hp.mem_iff.1 (h2 i hi)⟩, h3⟩
  cases h with
  | no h =>
    cases h' with
    | no h' => exact ⟨ha, rfl, rfl⟩
    | ok h' => exact absurd (ha.trans h') h
  | ok h s hb =>
    cases h' with
    | no h' => exact absurd (ha.symm.trans h) h'
    | ok h' s' hb' => rw [hb.unique (hb'.congr hc)]; exact ⟨rfl, rfl, rfl⟩
theorem both_ok {er r0 r1 : Int} {x y : List Int} (hA : BestAns n l ts ns hd rt rn er r0 x) (hM : MostAns n l ts ns hd rt rn 0 r1 y) : (er = 0 → r0 = r1 ∧ x = y) ∧ (er ≠ 0 → er = 10 ∧ y.length ≠ rn.length) := by
  obtain ⟨h0, hr1, hb⟩ := hM.good
  obtain ⟨m, rfl, hk⟩ := askOk_of h0
  constructor
  · rintro rfl
    obtain ⟨_, hr0, hb'⟩ := hA.good
    exact ⟨hr0.trans hr1.symm, best_most hk hb' hb⟩
  · intro he
    cases hA with
    | no h => exact absurd h0 h
    | empty h hb' => exact ⟨rfl, fun hl => hb' y ⟨sub_full hk.nd hb.1.1.1 hb.1.1.2 hl, hb.1.2⟩⟩
    | ok => exact absurd rfl he
theorem MostAns.len {er r0 : Int} {x : List Int} (h : MostAns n l ts ns hd rt rn er r0 x) : x.length ≤ 6 := by
  by_cases he : er = 0
  · subst he
    obtain ⟨h0, _, hb⟩ := h.good
    obtain ⟨m, rfl, hk⟩ := askOk_of h0
    obtain ⟨s, _, hp⟩ := part_of hk.nd hb.1.1.1 hb.1.1.2
    have := (pickS_sub rn s).length_le
    have := hk.len
    rw [hp.length_eq]; omega
  · rw [(h.bad he).1]; simp
theorem BestAns.len {er r0 : Int} {x : List Int} (h : BestAns n l ts ns hd rt rn er r0 x) : x.length ≤ 6 := by
  cases h with
  | no => simp
  | empty => simp
  | ok h x hb =>
    obtain ⟨m, rfl, hk⟩ := askOk_of h
    rw [hb.1.1.length_eq]; exact hk.len
theorem BestAns.no' {er r0 : Int} {x : List Int} (h : BestAns n l ts ns hd rt rn er r0 x) (h0 : askErr n l ts ns hd rt rn ≠ 0) : er = askErr n l ts ns hd rt rn := by
  cases h with
  | no => rfl
  | empty h => exact absurd h h0
  | ok h => exact absurd h h0
end
end Go.Proofs.Ytfddebpeiilohaa

/-
  Walks: try, Best and Most of the reference.
-/
set_option linter.all false
namespace Go.Proofs.Ytfddebpeiilohaa
open Go Go.W Go.RowKit

theorem rTry (m : Nat) (hd : Int) (q : Nat) (A B C R T : Option Addr) (l : List Edg) (ts : List Truck) (ns : List Need) (rn : List Int) (ca cb cc cr tc : Nat) (al : Bool) (hq : q < ts.length) (hk : AskOk m l ts ns hd q rn) :
    ∀ (D : Nat) (os : List Nat), rn.length ≤ os.length + D → os.Nodup → (∀ i ∈ os, i < rn.length) → TryOk m hd q A B C R T l ts ns rn ca cb cc cr tc al ts[q] os := by
  have hl6 := hk.len
  have hfull : ∀ os : List Nat, os.Nodup → (∀ i ∈ os, i < rn.length) → os.length ≤ rn.length := fun os h1 h2 => by
    have := h1.length_le_of_subset (l₂ := List.range rn.length) fun i hi => List.mem_range.2 (h2 i hi)
    rwa [List.length_range] at this
  have hstep : ∀ (os : List Nat) (i : Nat), os.Nodup → (∀ i ∈ os, i < rn.length) → i < rn.length → i ∉ os → (os ++ [i]).Nodup ∧ ∀ p ∈ os ++ [i], p < rn.length := fun os i h1 h2 h3 h4 => by
    refine ⟨by rw [List.nodup_append]; exact ⟨h1, by simp, fun a ha b hb he => by simp at hb; subst hb he; exact h4 ha⟩, fun p hp => ?_⟩
    rcases List.mem_append.1 hp with hp | hp
    · exact h2 p hp
    · simp at hp; subst hp; exact h3
  intro D
  induction D with
  | zero =>
    intro os hD hnd hin
    refine rTryStep m hd q A B C R T l ts ns rn ca cb cc cr tc al hq hk os hnd hin (by have := hfull os hnd hin; omega) fun i hi hni => ?_
    obtain ⟨h1, h2⟩ := hstep os i hnd hin hi hni
    have := hfull _ h1 h2
    rw [List.length_append, List.length_singleton] at this
    omega
  | succ D ihD =>
    intro os hD hnd hin
    refine rTryStep m hd q A B C R T l ts ns rn ca cb cc cr tc al hq hk os hnd hin (by have := hfull os hnd hin; omega) fun i hi hni => ?_
    obtain ⟨h1, h2⟩ := hstep os i hnd hin hi hni
    exact ihD (os ++ [i]) (by rw [List.length_append, List.length_singleton]; omega) h1 h2
set_option maxHeartbeats 4000000 in
theorem rBest (n hd rt : Int) (A B C R : Option Addr) (l : List Edg) (ts : List Truck) (ns : List Need) (rn : List Int) (ca cb cc cr : Nat) (w0 : World) (hz : EdgsAt w0 A l) (ht : RowsAt 4 truckCells w0 B ts) (hn : RowsAt 2 needCells w0 C ns) (hr : IntsAt w0 R rn) (hrl : rn.length ≤ 1000) :
    Calls Try.prog 12 #[.agg #[I n, .slice A l.length ca, .slice B ts.length cb, .slice C ns.length cc, I hd], I rt, .slice R rn.length cr] w0 fun e w' => ∃ (er r0 : Int) (x : List Int) (X : Option Addr) (c : Nat) (Lf : List Blk), e = .returned (.tuple #[.agg #[I r0, .slice X x.length c], I er]) ∧ BestAns n l ts ns hd rt rn er r0 x ∧ Reads Lf (fun w => IntsAt w X x) ∧ SH w0 [] w' Lf := by
  have H := SH.refl w0
  refine Calls.ofWPc Try.func12 rfl Try.results12 Try.ntmps12 rfl ?_
  refine WP.seq ?_
  refine WP.region ?_
  refine OPS.box rfl rfl rfl rfl (cA rfl) H ?_
  clear H; intro g3 w H
  refine OPS.alloc rfl rfl rfl rfl (zero_run rfl) rfl H ?_
  clear H; intro g6 w H
  refine OPS.val rfl rfl rfl (Ev.asI rfl) ?_
  refine OPS.nil ?_
  refine WP.seq ?_
  refine WP.seq ?_
  refine WP.region ?_
  refine OPS.val rfl rfl rfl ((by exact Ev.loadO 1 H rfl (agg_run rfl) (size_run rfl) (by rfl) rfl)) ?_
  refine OPS.val rfl rfl rfl (Ev.mvI rfl) ?_
  refine OPS.val rfl rfl rfl (Ev.mvS rfl) ?_
  refine OPS.call (d := some 13) rfl rfl rfl (EvC.func (fun_run rfl)) (rCheck n hd rt A B C R l ts ns rn ca cb cc cr w (hz.sh H) (ht.sh H) (hn.sh H) (hr.sh H) hrl) ?_
  rintro _ w ⟨rfl, hb⟩
  refine ⟨_, rfl, ?_⟩
  replace H := H.toBelow hb; clear hb
  refine OPS.val rfl rfl rfl (Ev.asI rfl) ?_
  refine OPS.nil ?_
  refine WP.seq ?_
  refine WP.region ?_
  refine OPS.val rfl rfl rfl (Ev.mvI rfl) ?_
  refine OPS.val rfl rfl rfl (Ev.neq rfl rfl) ?_
  refine OPS.nil ?_
  refine WP.cond rfl (fun hc2 => ?_) (fun hc2 => ?_)
  · refine WP.seq ?_
    refine WP.region ?_
    refine OPS.val rfl rfl rfl (Ev.build (bld_34_ (e := fun _ => .int .i64 0))) ?_
    refine OPS.val rfl rfl rfl (Ev.mvI rfl) ?_
    refine OPS.store 0 _ rfl rfl rfl (size_run rfl) rfl (cA rfl) rfl rfl H rfl (by simp) ?_
    clear H; intro w H; try simp only [List.set_cons_zero, List.set_cons_succ, putL, Nat.zero_add] at H
    refine OPS.val rfl rfl rfl (Ev.asI rfl) ?_
    refine OPS.nil ?_
    refine WP.ret ⟨[_, _], ⟨(by exact resCellA 0 H rfl (agg_run rfl) (size_run rfl) (by rfl) rfl), rfl, trivial⟩, ?_⟩
    have h : askErr n l ts ns hd rt rn ≠ 0 := by simpa using hc2
    exact ⟨_, _, [], none, 0, [], rfl, .no h, (fun _ _ _ _ => OnesAt.nil), H.drop (List.nil_sublist _)⟩
  have h0 : askErr n l ts ns hd rt rn = 0 := by simpa using hc2
  obtain ⟨m, rfl, hk⟩ := askOk_of h0
  obtain ⟨q, rfl⟩ := Int.eq_ofNat_of_zero_le hk.tr.1
  have hq : q < ts.length := by have := hk.tr.2; omega
  refine WP.skip ?_
  refine WP.seq ?_
  refine WP.region ?_
  refine OPS.val rfl rfl rfl ((by exact Ev.loadO 1 H rfl (agg_run rfl) (size_run rfl) (by rfl) rfl)) ?_
  refine OPS.val rfl rfl rfl (Ev.mvI rfl) ?_
  refine OPS.val rfl rfl rfl (Ev.mvS rfl) ?_
  refine OPS.call (d := some 21) rfl rfl rfl (EvC.func (fun_run rfl)) (rBegin m hd q A B C R l ts ns rn ca cb cc cr true w (hz.sh H) (ht.sh H) (hn.sh H) (hr.sh H) hq hk) ?_
  rintro _ w ⟨T, tc, Lt, rfl, hT, Hc⟩
  refine ⟨_, rfl, ?_⟩
  replace H := SH.call (L1 := [_, _]) (Lv := []) H Hc
  clear Hc
  simp only [List.cons_append, List.nil_append] at H
  refine OPS.call (d := some 22) rfl rfl rfl (EvC.func (fun_run rfl)) ((rTry m hd q A B C R T l ts ns rn ca cb cc cr tc true hq hk rn.length [] (by simp) (by simp) (by simp)) none (fun _ => False) none none 0 0 0 false 0 0 w (hn.sh H) (hr.sh H) (hT.at H Sb.out) OnesAt.nil rfl (fun x hx => by cases hx) (fun x hx => by cases hx) IsBest.zero) ?_
  rintro _ w ⟨s, fd, O', X, ol', oc', xl, xc, mv, sc, Lc, rfl, hst, hs6, hbs, hkp, Hc⟩
  refine ⟨_, rfl, ?_⟩
  replace H := SH.call (L1 := _) (Lv := []) (by rw [List.append_nil]; exact H) Hc
  clear Hc
  have hbest : IsBest (mvL ns) (secsD m l ts ns hd q) (CandP m l ts ns hd q rn) s := hbs.congr fun o => by rw [false_or, ext_all hk]
  unfold srL
  refine OPS.alloc rfl rfl rfl rfl (zero_run rfl) rfl H ?_
  clear H; intro g9 w H
  refine OPS.store 0 _ rfl rfl rfl (size_run rfl) rfl (cA rfl) rfl rfl H rfl (by simp) ?_
  clear H; intro w H
  simp only [List.set_cons_zero, List.set_cons_succ, List.cons_append, putL] at H
  refine OPS.nil ?_
  refine WP.seq ?_
  refine WP.seq ?_
  refine WP.region ?_
  refine OPS.val rfl rfl rfl (Ev.fieldAddr (fld_run rfl) rfl) ?_
  refine OPS.val rfl rfl rfl (Ev.load1 (agg_run rfl) rfl (by exact H.ldL 0 rfl _ rfl)) ?_
  refine OPS.val rfl rfl rfl (Ev.not rfl) ?_
  refine OPS.nil ?_
  refine WP.cond rfl (fun hc5 => ?_) (fun hc5 => ?_)
  · refine WP.seq ?_
    refine WP.region ?_
    refine OPS.val rfl rfl rfl (Ev.build (bld_34_ (e := fun _ => .int .i64 0))) ?_
    refine OPS.store 1 _ rfl rfl rfl (size_run rfl) rfl (cA rfl) rfl rfl H rfl (by simp) ?_
    clear H; intro w H; try simp only [List.set_cons_zero, List.set_cons_succ, putL, Nat.zero_add] at H
    refine OPS.val rfl rfl rfl (Ev.asI rfl) ?_
    refine OPS.nil ?_
    refine WP.ret ⟨[_, _], ⟨(by exact resCellA 1 H rfl (agg_run rfl) (size_run rfl) (by rfl) rfl), rfl, trivial⟩, ?_⟩
    have hfd : fd = false := by simpa using hc5
    obtain rfl : s = none := by
      cases s with
      | none => rfl
      | some x => rw [hst.1] at hfd; cases hfd
    exact ⟨_, _, [], none, 0, [], rfl, .empty h0 hbest, (fun _ _ _ _ => OnesAt.nil), H.drop (List.nil_sublist _)⟩
  have hfd : fd = true := by simpa using hc5
  obtain ⟨x, rfl⟩ : ∃ x, s = some x := by
    cases s with
    | none => rw [show fd = false from hst] at hfd; cases hfd
    | some x => exact ⟨x, rfl⟩
  obtain ⟨_, rfl, _, _⟩ := hst
  have hRx : Reads Lc (fun w => IntsAt w X x) := by
    rcases hkp with ⟨h, _⟩ | h
    · cases h
    · exact h x rfl
  refine WP.skip ?_
  refine WP.seq ?_
  refine WP.region ?_
  refine OPS.val rfl rfl rfl (Ev.mvI rfl) ?_
  refine OPS.val rfl rfl rfl (Ev.fieldAddr (fld_run rfl) rfl) ?_
  refine OPS.val rfl rfl rfl (Ev.load1 (agg_run rfl) rfl (by exact H.ldL 0 rfl _ rfl)) ?_
  refine OPS.val rfl rfl rfl (Ev.build (bld_34_0_1 rfl rfl)) ?_
  refine OPS.store 1 _ rfl rfl rfl (size_run rfl) rfl (cA rfl) rfl rfl H rfl (by simp) ?_
  clear H; intro w H; try simp only [List.set_cons_zero, List.set_cons_succ, putL, Nat.zero_add] at H
  refine OPS.val rfl rfl rfl (Ev.asI rfl) ?_
  refine OPS.nil ?_
  refine WP.ret ⟨[_, _], ⟨(by exact resCellA 1 H rfl (agg_run rfl) (size_run rfl) (by rfl) rfl), rfl, trivial⟩, ?_⟩
  exact ⟨_, _, x, X, xc, Lc, rfl, .ok h0 x hbest, hRx, H.drop Sb.out⟩
set_option maxHeartbeats 4000000 in
theorem rMost (n hd rt : Int) (A B C R : Option Addr) (l : List Edg) (ts : List Truck) (ns : List Need) (rn : List Int) (ca cb cc cr : Nat) (w0 : World) (hz : EdgsAt w0 A l) (ht : RowsAt 4 truckCells w0 B ts) (hn : RowsAt 2 needCells w0 C ns) (hr : IntsAt w0 R rn) (hrl : rn.length ≤ 1000) :
    Calls Try.prog 15 #[.agg #[I n, .slice A l.length ca, .slice B ts.length cb, .slice C ns.length cc, I hd], I rt, .slice R rn.length cr] w0 fun e w' => ∃ (er r0 : Int) (x : List Int) (X : Option Addr) (c : Nat) (Lf : List Blk), e = .returned (.tuple #[.agg #[I r0, .slice X x.length c], I er]) ∧ MostAns n l ts ns hd rt rn er r0 x ∧ Reads Lf (fun w => IntsAt w X x) ∧ SH w0 [] w' Lf := by
  have H := SH.refl w0
  refine Calls.ofWPc Try.func15 rfl Try.results15 Try.ntmps15 rfl ?_
  refine WP.seq ?_
  refine WP.region ?_
  refine OPS.box rfl rfl rfl rfl (cA rfl) H ?_
  clear H; intro g3 w H
  refine OPS.alloc rfl rfl rfl rfl (zero_run rfl) rfl H ?_
  clear H; intro g6 w H
  refine OPS.val rfl rfl rfl (Ev.asI rfl) ?_
  refine OPS.nil ?_
  refine WP.seq ?_
  refine WP.seq ?_
  refine WP.region ?_
  refine OPS.val rfl rfl rfl ((by exact Ev.loadO 1 H rfl (agg_run rfl) (size_run rfl) (by rfl) rfl)) ?_
  refine OPS.val rfl rfl rfl (Ev.mvI rfl) ?_
  refine OPS.val rfl rfl rfl (Ev.mvS rfl) ?_
  refine OPS.call (d := some 13) rfl rfl rfl (EvC.func (fun_run rfl)) (rCheck n hd rt A B C R l ts ns rn ca cb cc cr w (hz.sh H) (ht.sh H) (hn.sh H) (hr.sh H) hrl) ?_
  rintro _ w ⟨rfl, hb⟩
  refine ⟨_, rfl, ?_⟩
  replace H := H.toBelow hb; clear hb
  refine OPS.val rfl rfl rfl (Ev.asI rfl) ?_
  refine OPS.nil ?_
  refine WP.seq ?_
  refine WP.region ?_
  refine OPS.val rfl rfl rfl (Ev.mvI rfl) ?_
  refine OPS.val rfl rfl rfl (Ev.neq rfl rfl) ?_
  refine OPS.nil ?_
  refine WP.cond rfl (fun hc2 => ?_) (fun hc2 => ?_)
  · refine WP.seq ?_
    refine WP.region ?_
    refine OPS.val rfl rfl rfl (Ev.build (bld_34_ (e := fun _ => .int .i64 0))) ?_
    refine OPS.val rfl rfl rfl (Ev.mvI rfl) ?_
    refine OPS.store 0 _ rfl rfl rfl (size_run rfl) rfl (cA rfl) rfl rfl H rfl (by simp) ?_
    clear H; intro w H; try simp only [List.set_cons_zero, List.set_cons_succ, putL, Nat.zero_add] at H
    refine OPS.val rfl rfl rfl (Ev.asI rfl) ?_
    refine OPS.nil ?_
    refine WP.ret ⟨[_, _], ⟨(by exact resCellA 0 H rfl (agg_run rfl) (size_run rfl) (by rfl) rfl), rfl, trivial⟩, ?_⟩
    have h : askErr n l ts ns hd rt rn ≠ 0 := by simpa using hc2
    exact ⟨_, _, [], none, 0, [], rfl, .no h, (fun _ _ _ _ => OnesAt.nil), H.drop (List.nil_sublist _)⟩
  have h0 : askErr n l ts ns hd rt rn = 0 := by simpa using hc2
  obtain ⟨m, rfl, hk⟩ := askOk_of h0
  obtain ⟨q, rfl⟩ := Int.eq_ofNat_of_zero_le hk.tr.1
  have hq : q < ts.length := by have := hk.tr.2; omega
  refine WP.skip ?_
  refine WP.seq ?_
  refine WP.region ?_
  refine OPS.val rfl rfl rfl ((by exact Ev.loadO 1 H rfl (agg_run rfl) (size_run rfl) (by rfl) rfl)) ?_
  refine OPS.val rfl rfl rfl (Ev.mvI rfl) ?_
  refine OPS.val rfl rfl rfl (Ev.mvS rfl) ?_
  refine OPS.call (d := some 21) rfl rfl rfl (EvC.func (fun_run rfl)) (rBegin m hd q A B C R l ts ns rn ca cb cc cr false w (hz.sh H) (ht.sh H) (hn.sh H) (hr.sh H) hq hk) ?_
  rintro _ w ⟨T, tc, Lt, rfl, hT, Hc⟩
  refine ⟨_, rfl, ?_⟩
  replace H := SH.call (L1 := [_, _]) (Lv := []) H Hc
  clear Hc
  simp only [List.cons_append, List.nil_append] at H
  refine OPS.call (d := some 22) rfl rfl rfl (EvC.func (fun_run rfl)) ((rTry m hd q A B C R T l ts ns rn ca cb cc cr tc false hq hk rn.length [] (by simp) (by simp) (by simp)) none (fun _ => False) none none 0 0 0 false 0 0 w (hn.sh H) (hr.sh H) (hT.at H Sb.out) OnesAt.nil rfl (fun x hx => by cases hx) (fun x hx => by cases hx) IsBest.zero) ?_
  rintro _ w ⟨s, fd, O', X, ol', oc', xl, xc, mv, sc, Lc, rfl, hst, hs6, hbs, hkp, Hc⟩
  refine ⟨_, rfl, ?_⟩
  replace H := SH.call (L1 := _) (Lv := []) (by rw [List.append_nil]; exact H) Hc
  clear Hc
  have hbest : IsBest (mvL ns) (secsD m l ts ns hd q) (SubP m l ts ns hd q rn) s := hbs.congr fun o => by rw [false_or, ext_some hk]
  have hem : SubP m l ts ns hd q rn [] := ⟨⟨by simp, by simp⟩, hk.nil⟩
  obtain ⟨x, rfl⟩ : ∃ x, s = some x := by
    cases s with
    | none => exact absurd hem (hbest [])
    | some x => exact ⟨x, rfl⟩
  obtain ⟨_, rfl, _, _⟩ := hst
  have hRx : Reads Lc (fun w => IntsAt w X x) := by
    rcases hkp with ⟨h, _⟩ | h
    · cases h
    · exact h x rfl
  unfold srL
  refine OPS.alloc rfl rfl rfl rfl (zero_run rfl) rfl H ?_
  clear H; intro g9 w H
  refine OPS.store 0 _ rfl rfl rfl (size_run rfl) rfl (cA rfl) rfl rfl H rfl (by simp) ?_
  clear H; intro w H
  simp only [List.set_cons_zero, List.set_cons_succ, List.cons_append, putL] at H
  refine OPS.nil ?_
  refine WP.seq ?_
  refine WP.region ?_
  refine OPS.val rfl rfl rfl (Ev.mvI rfl) ?_
  refine OPS.val rfl rfl rfl (Ev.fieldAddr (fld_run rfl) rfl) ?_
  refine OPS.val rfl rfl rfl (Ev.load1 (agg_run rfl) rfl (by exact H.ldL 0 rfl _ rfl)) ?_
  refine OPS.val rfl rfl rfl (Ev.build (bld_34_0_1 rfl rfl)) ?_
  refine OPS.store 1 _ rfl rfl rfl (size_run rfl) rfl (cA rfl) rfl rfl H rfl (by simp) ?_
  clear H; intro w H; try simp only [List.set_cons_zero, List.set_cons_succ, putL, Nat.zero_add] at H
  refine OPS.val rfl rfl rfl (Ev.asI rfl) ?_
  refine OPS.nil ?_
  refine WP.ret ⟨[_, _], ⟨(by exact resCellA 1 H rfl (agg_run rfl) (size_run rfl) (by rfl) rfl), rfl, trivial⟩, ?_⟩
  exact ⟨_, _, x, X, xc, Lc, rfl, .ok h0 (some x) hbest, hRx, H.drop Sb.out⟩
end Go.Proofs.Ytfddebpeiilohaa
