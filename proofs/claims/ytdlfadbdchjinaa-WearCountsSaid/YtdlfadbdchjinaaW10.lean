/-
  Walk: slices.Concat.
-/
import Derived.Test.YtdlfadbdchjinaaW9
set_option linter.all false
namespace Go.Proofs.Ytdlfadbdchjinaa
open Go Go.W Go.RowKit

def slV (s : SlA Int) : Value := .slice s.A s.l.length s.cap
theorem onesCells {w : World} {b : Nat} : ∀ (l : List Int) (o : Nat), IntsAt w (some ⟨b, o, none⟩) l → cellsAt w b o (l.map I)
  | [], _, _ => trivial
  | x :: l, o, h => by
    refine ⟨?_, onesCells l (o + 1) fun k hk => ?_⟩
    · obtain ⟨_, _, e, hc⟩ := h 0 (by simp)
      cases e; exact hc
    · obtain ⟨_, _, e, hc⟩ := h (k + 1) (by simpa using hk)
      cases e
      exact ⟨b, o + 1, rfl, by rw [show o + 1 + k = o + (k + 1) by omega]; exact hc⟩
theorem onesSrc {w : World} {A : Option Addr} {l : List Int} (h : IntsAt w A l) : l.length = 0 ∨ ∃ b o, A = some ⟨b, o, none⟩ ∧ cellsAt w b o (l.map I) := by
  by_cases hl : l.length = 0
  · exact .inl hl
  · obtain ⟨b, o, rfl, _⟩ := h 0 (by omega)
    exact .inr ⟨b, o, rfl, onesCells l o h⟩
theorem ones_one (l : List Int) : ((l.map I).all (·.oneCell')) = true := by rw [List.all_map, List.all_eq_true]; intro x _; rfl
def catL (rs : List (SlA Int)) : List Int := rs.flatMap (·.l)
theorem catL_take {rs : List (SlA Int)} {j : Nat} (h : j < rs.length) : catL (rs.take (j + 1)) = catL (rs.take j) ++ rs[j].l := by unfold catL; rw [List.take_succ_eq_append_getElem h, List.flatMap_append]; simp
theorem catL_len {rs : List (SlA Int)} (h : ∀ r ∈ rs, r.l.length ≤ 100) : ∀ j, j ≤ rs.length → (catL (rs.take j)).length ≤ 100 * j := fun j => by
  induction j with
  | zero => intro _; simp [catL]
  | succ j ih =>
    intro hj
    have := ih (by omega)
    have := h rs[j] (List.getElem_mem (by omega))
    rw [catL_take (show j < rs.length by omega), List.length_append]; omega
set_option maxHeartbeats 1000000 in
theorem concat (A : Option Addr) (rs : List (SlA Int)) (cap : Nat) (w0 : World) (hz : OnesAt slV w0 A rs) (hr : ∀ r ∈ rs, IntsAt w0 r.A r.l) (hl : ∀ r ∈ rs, r.l.length ≤ 100) (hn : rs.length ≤ 10) :
    Calls Try.prog 30 #[.slice A rs.length cap] w0 fun e w' => ∃ (S : Option Addr) (c : Nat) (L : List Blk), e = .returned (.slice S (catL rs).length c) ∧ OwnS S c (catL rs).length ((catL rs).map I) 3 1 L ∧ SH w0 [] w' L := by
  have H := SH.refl w0
  have hcl := catL_len hl
  refine Calls.ofWP Try.func30 rfl Try.results30 Try.ntmps30 rfl ?_
  refine WP.seq ?_
  refine WP.region ?_
  refine OPS.val rfl rfl rfl (Ev.asS rfl) ?_
  refine OPS.nil ?_
  refine WP.seq ?_
  refine WP.region ?_
  refine OPS.val rfl rfl rfl (Ev.asI rfl) ?_
  refine OPS.nil ?_
  refine WP.seq ?_
  refine WP.seq ?_
  refine WP.region ?_
  refine OPS.val rfl rfl rfl (Ev.mvS rfl) ?_
  refine OPS.val rfl rfl rfl (Ev.len (el_run rfl) rfl) ?_
  refine OPS.val rfl rfl rfl (Ev.mvI rfl) ?_
  refine OPS.nil ?_
  refine WP.block ?_
  refine WP.loop [3, 5, 11, 12, 13, 14, 15, 16, 17, 18, 19, 20, 21, 22] (fun k e w' => ∃ (j : Nat), j + k = rs.length ∧ e 11 = I j ∧ e 3 = I (catL (rs.take j)).length ∧ SH w0 [] w' []) (rs.length) (⟨0, by omega, rfl, rfl, H⟩) ?_
  clear H
  rintro k u w ⟨j, hk, h11, h3, H⟩
  refine WP.know (t := 11) h11 (WP.know (t := 3) h3 ?_)
  refine WP.seq ?_
  refine WP.region ?_
  refine OPS.val rfl rfl rfl (Ev.lss rfl rfl) ?_
  refine OPS.nil ?_
  refine WP.seq ?_
  refine WP.cond rfl (fun hc3 => ?_) (fun hc3 => ?_)
  · have hlt : j < rs.length := by simpa using hc3
    obtain ⟨b, o, rfl, hc⟩ := hz j hlt
    unfold slV at hc
    have h1 := hcl j (by omega)
    have h2 := hl rs[j] (List.getElem_mem hlt)
    have h4 := catL_take hlt
    refine WP.skip ?_
    refine WP.seq ?_
    refine WP.block ?_
    refine WP.seq ?_
    refine WP.region ?_
    refine OPS.val rfl rfl rfl ((by first | exact Ev.indexAddr1 (el_run rfl) (size_run rfl) rfl rfl rfl (by omega) | exact Ev.indexAddr (el_run rfl) (size_run rfl) rfl rfl rfl (by omega))) ?_
    refine OPS.val rfl rfl rfl (Ev.load1 (agg_run rfl) rfl (by first | exact H.ldL 0 rfl _ rfl | exact H.ldL 1 rfl _ rfl | exact H.ldL 2 rfl _ rfl | exact H.ldL 3 rfl _ rfl | exact H.ldL 4 rfl _ rfl | exact H.ldL 5 rfl _ rfl | exact H.ldL 6 rfl _ rfl | exact H.ldL 7 rfl _ rfl | exact H.ld0 (by assumption) | assumption | exact H.ldS (by assumption) (by assumption))) ?_
    refine OPS.val rfl rfl rfl (Ev.asS rfl) ?_
    refine OPS.nil ?_
    refine WP.seq ?_
    refine WP.region ?_
    refine OPS.val rfl rfl rfl (Ev.mvI rfl) ?_
    refine OPS.val rfl rfl rfl (Ev.mvS rfl) ?_
    refine OPS.val rfl rfl rfl (Ev.len (el_run rfl) rfl) ?_
    refine OPS.val rfl rfl rfl (Ev.add rfl rfl (by unfold fits; omega)) ?_
    refine OPS.val rfl rfl rfl (Ev.asI rfl) ?_
    refine OPS.nil ?_
    refine WP.seq ?_
    refine WP.region ?_
    refine OPS.val rfl rfl rfl (Ev.mvI rfl) ?_
    refine OPS.val rfl rfl rfl (Ev.lss rfl rfl) ?_
    refine OPS.nil ?_
    refine WP.cond rfl (fun hc6 => ?_) (fun hc6 => ?_)
    · simp at hc6; omega
    refine WP.skip ?_
    refine WP.region ?_
    refine OPS.val rfl rfl rfl (Ev.add rfl rfl (by unfold fits; omega)) ?_
    refine OPS.val rfl rfl rfl (Ev.mvI rfl) ?_
    refine OPS.nil ?_
    exact ⟨(by repeat (first | exact Agree.refl _ _ | exact Agree.mix _ _ _ | refine Agree.upd rfl ?_ | refine Agree.mix2 rfl ?_)), k - 1, by omega, j + 1, by omega, rfl, by rw [h4, List.length_append, Int.natCast_add]; rfl, H⟩
  have hj : j = rs.length := by simp at hc3; omega
  subst hj
  have h1 := hcl rs.length (by omega)
  rw [List.take_length] at h1 ⊢
  refine WP.exit ?_
  refine XB.hit ?_
  refine WP.seq ?_
  refine WP.region ?_
  refine OPS.val rfl rfl rfl (Ev.mvI rfl) ?_
  refine OPS.call (d := some 24) rfl rfl rfl (EvC.func (fun_run rfl)) (growNil (catL rs).length w (by omega)) ?_
  rintro _ w ⟨S, c, Lo, rfl, hO, Hc⟩
  refine ⟨_, rfl, ?_⟩
  replace H := SH.call (Lv := []) (by rw [List.append_nil]; exact H) Hc
  clear Hc
  refine OPS.val rfl rfl rfl (Ev.asS rfl) ?_
  refine OPS.nil ?_
  refine WP.seq ?_
  refine WP.seq ?_
  refine WP.region ?_
  refine OPS.val rfl rfl rfl (Ev.mvS rfl) ?_
  refine OPS.val rfl rfl rfl (Ev.len (el_run rfl) rfl) ?_
  refine OPS.val rfl rfl rfl (Ev.mvI rfl) ?_
  refine OPS.nil ?_
  refine WP.block ?_
  refine WP.loop [6, 8, 27, 28, 29, 30, 31, 32, 33, 34] (fun k e w' => ∃ (j : Nat) (S : Option Addr) (c : Nat) (Lo : List Blk), j + k = rs.length ∧ e 27 = I j ∧ e 6 = .slice S (catL (rs.take j)).length c ∧ OwnS S c (catL (rs.take j)).length ((catL (rs.take j)).map I) 3 1 Lo ∧ SH w0 [] w' Lo) (rs.length) (⟨0, S, c, Lo, by omega, rfl, rfl, hO, H⟩) ?_
  clear H hO
  rintro k u w ⟨j, S, c, Lo, hk, h27, h6, hO, H⟩
  refine WP.know (t := 27) h27 (WP.know (t := 6) h6 ?_)
  refine WP.seq ?_
  refine WP.region ?_
  refine OPS.val rfl rfl rfl (Ev.lss rfl rfl) ?_
  refine OPS.nil ?_
  refine WP.seq ?_
  refine WP.cond rfl (fun hc11 => ?_) (fun hc11 => ?_)
  · have hlt : j < rs.length := by simpa using hc11
    obtain ⟨b, o, rfl, hc⟩ := hz j hlt
    unfold slV at hc
    have hcj := hcl j (by omega)
    have h2 := hl rs[j] (List.getElem_mem hlt)
    have h4 := catL_take hlt
    have hsrc := hr rs[j] (List.getElem_mem hlt)
    refine WP.skip ?_
    refine WP.seq ?_
    refine WP.block ?_
    refine WP.seq ?_
    refine WP.region ?_
    refine OPS.val rfl rfl rfl ((by first | exact Ev.indexAddr1 (el_run rfl) (size_run rfl) rfl rfl rfl (by omega) | exact Ev.indexAddr (el_run rfl) (size_run rfl) rfl rfl rfl (by omega))) ?_
    refine OPS.val rfl rfl rfl (Ev.load1 (agg_run rfl) rfl (by first | exact H.ldL 0 rfl _ rfl | exact H.ldL 1 rfl _ rfl | exact H.ldL 2 rfl _ rfl | exact H.ldL 3 rfl _ rfl | exact H.ldL 4 rfl _ rfl | exact H.ldL 5 rfl _ rfl | exact H.ldL 6 rfl _ rfl | exact H.ldL 7 rfl _ rfl | exact H.ld0 (by assumption) | assumption | exact H.ldS (by assumption) (by assumption))) ?_
    refine OPS.val rfl rfl rfl (Ev.asS rfl) ?_
    refine OPS.nil ?_
    refine WP.region ?_
    refine OPS.val rfl rfl rfl (Ev.mvS rfl) ?_
    refine OPS.val rfl rfl rfl (Ev.mvS rfl) ?_
    refine OPS.appendE (m := rs[j].l.length) (news := rs[j].l.map I) (R := []) rfl rfl rfl rfl rfl (sl_run rfl) rfl rfl hO (by simp) (onesSrc (hsrc.sh H)) (ones_one _) (by omega) (by unfold maxLen; omega) H (List.Perm.refl _) ?_
    clear H hO; intro S c Lo w hO H
    refine OPS.val rfl rfl rfl (Ev.asS rfl) ?_
    refine OPS.nil ?_
    refine WP.region ?_
    refine OPS.val rfl rfl rfl (Ev.add rfl rfl (by unfold fits; omega)) ?_
    refine OPS.val rfl rfl rfl (Ev.mvI rfl) ?_
    refine OPS.nil ?_
    have e : (catL (rs.take (j + 1))).length = (catL (rs.take j)).length + rs[j].l.length := by rw [h4, List.length_append]
    exact ⟨(by repeat (first | exact Agree.refl _ _ | exact Agree.mix _ _ _ | refine Agree.upd rfl ?_ | refine Agree.mix2 rfl ?_)), k - 1, by omega, j + 1, S, c, Lo, by omega, rfl, by rw [e]; rfl, by rw [e, h4, List.map_append]; exact hO, H⟩
  refine WP.exit ?_
  refine XB.hit ?_
  refine WP.seq ?_
  refine WP.region ?_
  refine OPS.val rfl rfl rfl (Ev.mvS rfl) ?_
  refine OPS.val rfl rfl rfl (Ev.asS rfl) ?_
  refine OPS.nil ?_
  refine WP.ret ⟨_, rfl, ?_⟩
  have hj : j = rs.length := by simp at hc11; omega
  subst hj
  rw [List.take_length] at hO ⊢
  exact ⟨S, c, Lo, rfl, hO, H⟩
end Go.Proofs.Ytdlfadbdchjinaa
