/-
 Walk: nearest.
-/
import Derived.Test.YthobaaefdehoiaaGreatFM5
import Derived.Test.YthobaaefdehoiaaGreatPtr
set_option linter.all false
namespace Go.Proofs.YthobaaefdehoiaaGreat.Flo
open Go Go.W Go.RowKit
def nTail (g : NAdr) (n : Nat) (Ap : Option Addr) (np capp : Nat) (done : List Bool) (s : NSt) : List Blk :=
 [⟨g.gdo, 137, [.slice (some ⟨g.gD, 0, none⟩) n n]⟩, ⟨g.gpo, 30, [.slice Ap np capp]⟩, ⟨g.gst, 128, [.slice (some ⟨g.gS, 0, none⟩) n n]⟩, ⟨g.gdi, 30, [.slice (some ⟨g.gI, 0, none⟩) n n]⟩, ⟨g.gwa, 155, [.pointer (some ⟨g.gq, 0, none⟩)]⟩,
  ⟨g.gD, 4, done.map Bo⟩, ⟨g.gS, 132, s.sts.flatMap stepCells⟩, ⟨g.gI, 3, s.dist.map I⟩] ++ qLv g.gq s.A s.cap s.h s.p s.Lo
abbrev pof (pots : List Int) : Int → Int := fun u => pots.getD u.toNat 0
structure NI (p : Int → Int) (l : List Arc) (on : List Int) (n s x : Nat) (Pr : Nat → Bool → Prop) (done : List Bool) (rk : Nat → Int) (D : Int) (mp mh : Nat) (st : NSt) : Prop where
 ok : NStOk n st
 di : DI p l on n s x Pr st done rk D
 hD : D = dAt st.dist x
 p1 : 0 ≤ st.p ∧ st.p ≤ mp
 h1 : (st.h.length : Int) ≤ st.p
 h2 : st.h.length ≤ mh
theorem NI.skip {p : Int → Int} {l : List Arc} {on : List Int} {n s x : Nat} {Pr Pr' : Nat → Bool → Prop} {done : List Bool} {rk : Nat → Int} {D : Int} {mp mh mp' mh' : Nat} {st : NSt} (h : NI p l on n s x Pr done rk D mp mh st)
  (hp : ∀ i fw u v r w, REdge p l on i fw u v r w → Pr' i fw → Pr i fw) (h1 : mp ≤ mp') (h2 : mh ≤ mh') : NI p l on n s x Pr' done rk D mp' mh' st :=
 ⟨h.ok, h.di.pr hp, h.hD, ⟨h.p1.1, by have := h.p1.2; omega⟩, h.h1, by have := h.h2; omega⟩
theorem NVis.dist_x {x : Nat} {xd : Int} {pots : List Int} {done : List Bool} {a b arc : Nat} {room cost : Int} {fwd : Bool} {s s' : NSt} (h : NVis x xd pots done a b arc room cost fwd s s') (hx : dnB done x = true) (hb : b < s.dist.length) : dAt s'.dist x = dAt s.dist x := by
 unfold NVis at h
 split at h
 ·rename_i hc
  unfold nVisC at hc
  simp only [Bool.and_eq_true, Bool.not_eq_true'] at hc
  have hne : b ≠ x := fun he => by
   have h1 : dnB done b = false := hc.1.2
   rw [he, hx] at h1; cases h1
  rw [h.2.1, dAt_set hb, if_neg hne]
 ·rw [h.2.1]
theorem NVis.cnt {x : Nat} {xd : Int} {pots : List Int} {done : List Bool} {a b arc : Nat} {room cost : Int} {fwd : Bool} {s s' : NSt} (h : NVis x xd pots done a b arc room cost fwd s s') : (s'.p = s.p ∧ s'.h.length = s.h.length) ∨ (s'.p = s.p + 1 ∧ s'.h.length = s.h.length + 1) := by
 unfold NVis at h
 split at h
 ·exact .inr ⟨h.2.2.2, by rw [h.2.2.1.length_eq]; simp⟩
 ·exact .inl ⟨h.2.2.2, by rw [h.2.2.1]⟩
set_option maxHeartbeats 1000000 in
theorem flowNearest (n s : Nat) (A B Ap : Option Addr) (l : List Arc) (on pots : List Int) (cap cap2 capp : Nat) (w0 : World) (hs : s < n) (hN : NetOk n l) (hlen : on.length = l.length) (hpl : pots.length = n)
  (hz : ArcsAt w0 A l) (ho : IntsAt w0 B on) (hp : IntsAt w0 Ap pots) (hV : VFlow l on) (hO : OptPot (fun u => pots.getD u.toNat 0) l on) (hp0 : pots.getD s 0 = 0) (hpb : ∀ i (h : i < pots.length), 0 ≤ pots[i] ∧ pots[i] ≤ 1000000000000) :
  Calls Tryz.prog 54 #[.agg #[I n, .slice A l.length cap, .slice B on.length cap2], I s, .slice Ap pots.length capp] w0
   fun e w' => ∃ (gS gI : Nat) (sts : List Step) (dist : List Int) (rk : Nat → Int), e = .returned (.tuple #[.slice (some ⟨gS, 0, none⟩) n n, .slice (some ⟨gI, 0, none⟩) n n]) ∧ Near (fun u => pots.getD u.toNat 0) l on n s sts dist rk ∧ SH w0 [] w' [⟨gS, 132, sts.flatMap stepCells⟩, ⟨gI, 3, dist.map I⟩] := by
 have H := SH.refl w0
 have hn2 := hN.n2
 refine Calls.ofWP Tryz.func54 rfl Tryz.results54 Tryz.ntmps54 rfl <| Y.qr <| Y.bx (cA rfl) H ?_
 clear H; intro g3 w H
 refine OPS.box rfl rfl rfl rfl (cS rfl) H ?_
 clear H; intro g5 w H
 refine Y.v (Ev.asS rfl) <| Y.v (Ev.asS rfl) <| Y.z <| Y.q ?_
 refine WP.rheldC [8, 9, 10, 14, 15, 16, 17, 18, 19, 20, 21, 22, 23, 24, 25] (fun u w' => ∃ (g17 g21 g25 g8 g9 g10 : Nat), u 8 = .pointer (some ⟨g8, 0, none⟩) ∧ u 9 = .pointer (some ⟨g9, 0, none⟩) ∧ u 10 = .pointer (some ⟨g10, 0, none⟩) ∧ SH w0 [] w' [⟨g17, 132, mkL n (stepCells default)⟩, ⟨g21, 3, mkL n [I 0]⟩, ⟨g25, 4, mkL n [Bo false]⟩, ⟨g8, 128, [.slice (some ⟨g17, 0, none⟩) n n]⟩, ⟨g9, 30, [.slice (some ⟨g21, 0, none⟩) n n]⟩, ⟨g10, 137, [.slice (some ⟨g25, 0, none⟩) n n]⟩, ⟨g5, 30, [.slice Ap pots.length capp]⟩, ⟨g3, 127, [I n, .slice A l.length cap, .slice B on.length cap2]⟩]) mixed H ?_ ?_
 ·clear H; intro w hbw1 H
  refine Y.t 0 H rfl rfl (fun w H => Y.f rfl rfl) <| Y.t 1 H rfl rfl (fun w H => Y.f rfl rfl) <| Y.t 2 H rfl rfl (fun w H => Y.l H 1 rfl rfl rfl) <| Y.t 4 H rfl rfl (fun w H => Y.f rfl rfl) <| Y.t 5 H rfl rfl (fun w H => Y.f rfl rfl) <| Y.t 6 H rfl rfl (fun w H => Y.l H 1 rfl rfl rfl) <| Y.t 8 H rfl rfl (fun w H => Y.f rfl rfl) <| Y.t 9 H rfl rfl (fun w H => Y.f rfl rfl) <| Y.t 10 H rfl rfl (fun w H => Y.l H 1 rfl rfl rfl) <| OPH.named (f' := 9) (ls' := #[true, true, true, false, true, true, true, false, true, true, true, false, false, false, false, false, false, false]) rfl (by kernel_rfl) ?_
  intro Q hQ
  generalize he0 : (upd _ _ _ : Env) = e0
  have f16 : e0 16 = I n := by rw [← he0]; rfl
  have f20 : e0 20 = I n := by rw [← he0]; rfl
  have f24 : e0 24 = I n := by rw [← he0]; rfl
  have s111111111 : ∀ (g17 g21 g25 g8 g9 g10 : Nat) (w : World), SH w0 [] w ([⟨g17, 132, mkL n (stepCells default)⟩, ⟨g21, 3, mkL n [I 0]⟩, ⟨g25, 4, mkL n [Bo false]⟩, ⟨g8, 128, [.slice (some ⟨g17, 0, none⟩) n n]⟩, ⟨g9, 30, [.slice (some ⟨g21, 0, none⟩) n n]⟩, ⟨g10, 137, [.slice (some ⟨g25, 0, none⟩) n n]⟩] ++ [⟨g5, 30, [.slice Ap pots.length capp]⟩, ⟨g3, 127, [I n, .slice A l.length cap, .slice B on.length cap2]⟩]) → Q 0 #[true, true, true, true, true, true, true, true, true, true, true, true, true, true, true, true, true, true] (upd (upd (upd (upd (upd (upd e0 17 (.slice (some ⟨g17, 0, none⟩) (n) (n))) 21 (.slice (some ⟨g21, 0, none⟩) (n) (n))) 25 (.slice (some ⟨g25, 0, none⟩) (n) (n))) 8 (.pointer (some ⟨g8, 0, none⟩))) 9 (.pointer (some ⟨g9, 0, none⟩))) 10 (.pointer (some ⟨g10, 0, none⟩))) w := by
   intro g17 g21 g25 g8 g9 g10 w H; rw [hQ]
   refine Y.dn ?_
   exact ⟨(by (repeat refine Agree.upd rfl ?_); rw [← he0]; exact Y.ag), g17, g21, g25, g8, g9, g10, rfl, rfl, rfl, H⟩
  have s111111110 : ∀ (g17 g21 g25 g8 g9 g10 : Nat) (w : World), SH w0 [] w ([⟨g17, 132, mkL n (stepCells default)⟩, ⟨g21, 3, mkL n [I 0]⟩, ⟨g25, 4, mkL n [Bo false]⟩, ⟨g8, 128, [.slice (some ⟨g17, 0, none⟩) n n]⟩, ⟨g9, 30, [.slice (some ⟨g21, 0, none⟩) n n]⟩, ⟨g10, 137, [.slice none 0 0]⟩] ++ [⟨g5, 30, [.slice Ap pots.length capp]⟩, ⟨g3, 127, [I n, .slice A l.length cap, .slice B on.length cap2]⟩]) → Q 1 #[true, true, true, true, true, true, true, true, true, true, true, true, true, true, true, true, true, false] (upd (upd (upd (upd (upd (upd e0 17 (.slice (some ⟨g17, 0, none⟩) (n) (n))) 21 (.slice (some ⟨g21, 0, none⟩) (n) (n))) 25 (.slice (some ⟨g25, 0, none⟩) (n) (n))) 8 (.pointer (some ⟨g8, 0, none⟩))) 9 (.pointer (some ⟨g9, 0, none⟩))) 10 (.pointer (some ⟨g10, 0, none⟩))) w := by
   intro g17 g21 g25 g8 g9 g10 w H; rw [hQ]
   refine Y.A1 17 rfl rfl <| Y.st 5 H rfl (cS rfl) rfl ?_
   clear H; intro w H; simp only [List.set_cons_zero, List.set_cons_succ, List.cons_append, List.nil_append, putL] at H
   refine Y.z <| ⟨H.reidx [6, 7] (by decide) rfl, ?_⟩
   rw [← hQ]
   exact qcast (by kernel_rfl) (s111111111 g17 g21 g25 g8 g9 g10 w (H))
  clear s111111111
  have s111111100 : ∀ (g17 g21 g25 g8 g9 g10 : Nat) (w : World), SH w0 [] w ([⟨g17, 132, mkL n (stepCells default)⟩, ⟨g21, 3, mkL n [I 0]⟩, ⟨g25, 4, mkL n [Bo false]⟩, ⟨g8, 128, [.slice (some ⟨g17, 0, none⟩) n n]⟩, ⟨g9, 30, [.slice none 0 0]⟩, ⟨g10, 137, [.slice none 0 0]⟩] ++ [⟨g5, 30, [.slice Ap pots.length capp]⟩, ⟨g3, 127, [I n, .slice A l.length cap, .slice B on.length cap2]⟩]) → Q 2 #[true, true, true, true, true, true, true, true, true, true, true, true, true, true, true, true, false, false] (upd (upd (upd (upd (upd (upd e0 17 (.slice (some ⟨g17, 0, none⟩) (n) (n))) 21 (.slice (some ⟨g21, 0, none⟩) (n) (n))) 25 (.slice (some ⟨g25, 0, none⟩) (n) (n))) 8 (.pointer (some ⟨g8, 0, none⟩))) 9 (.pointer (some ⟨g9, 0, none⟩))) 10 (.pointer (some ⟨g10, 0, none⟩))) w := by
   intro g17 g21 g25 g8 g9 g10 w H; rw [hQ]
   refine Y.A1 16 rfl rfl <| Y.st 4 H rfl (cS rfl) rfl ?_
   clear H; intro w H; simp only [List.set_cons_zero, List.set_cons_succ, List.cons_append, List.nil_append, putL] at H
   refine Y.z <| ⟨H.reidx [6, 7] (by decide) rfl, ?_⟩
   rw [← hQ]
   exact qcast (by kernel_rfl) (s111111110 g17 g21 g25 g8 g9 g10 w (H))
  have s110111110 : ∀ (g17 g21 g8 g9 g10 : Nat) (w : World), SH w0 [] w ([⟨g17, 132, mkL n (stepCells default)⟩, ⟨g21, 3, mkL n [I 0]⟩, ⟨g8, 128, [.slice (some ⟨g17, 0, none⟩) n n]⟩, ⟨g9, 30, [.slice (some ⟨g21, 0, none⟩) n n]⟩, ⟨g10, 137, [.slice none 0 0]⟩] ++ [⟨g5, 30, [.slice Ap pots.length capp]⟩, ⟨g3, 127, [I n, .slice A l.length cap, .slice B on.length cap2]⟩]) → Q 2 #[true, true, true, true, true, true, true, true, true, true, true, false, true, true, true, true, true, false] (upd (upd (upd (upd (upd e0 17 (.slice (some ⟨g17, 0, none⟩) (n) (n))) 21 (.slice (some ⟨g21, 0, none⟩) (n) (n))) 8 (.pointer (some ⟨g8, 0, none⟩))) 9 (.pointer (some ⟨g9, 0, none⟩))) 10 (.pointer (some ⟨g10, 0, none⟩))) w := by
   intro g17 g21 g8 g9 g10 w H; rw [hQ]
   refine Y.A1 11 rfl rfl <| Y.mk H (sl_run rfl) ?_
   clear H; intro g25 w H
   refine Y.z <| ⟨H.reidx [6, 7] (by decide) rfl, ?_⟩
   rw [← hQ]
   rw [upd_comm (a := 10) (b := 25) rfl]
   rw [upd_comm (a := 9) (b := 25) rfl]
   rw [upd_comm (a := 8) (b := 25) rfl]
   exact qcast (by kernel_rfl) (s111111110 g17 g21 g25 g8 g9 g10 w (H.reidx [1, 2, 0, 3, 4, 5, 6, 7] (by decide) rfl))
  clear s111111110
  have s111111000 : ∀ (g17 g21 g25 g8 g9 g10 : Nat) (w : World), SH w0 [] w ([⟨g17, 132, mkL n (stepCells default)⟩, ⟨g21, 3, mkL n [I 0]⟩, ⟨g25, 4, mkL n [Bo false]⟩, ⟨g8, 128, [.slice none 0 0]⟩, ⟨g9, 30, [.slice none 0 0]⟩, ⟨g10, 137, [.slice none 0 0]⟩] ++ [⟨g5, 30, [.slice Ap pots.length capp]⟩, ⟨g3, 127, [I n, .slice A l.length cap, .slice B on.length cap2]⟩]) → Q 3 #[true, true, true, true, true, true, true, true, true, true, true, true, true, true, true, false, false, false] (upd (upd (upd (upd (upd (upd e0 17 (.slice (some ⟨g17, 0, none⟩) (n) (n))) 21 (.slice (some ⟨g21, 0, none⟩) (n) (n))) 25 (.slice (some ⟨g25, 0, none⟩) (n) (n))) 8 (.pointer (some ⟨g8, 0, none⟩))) 9 (.pointer (some ⟨g9, 0, none⟩))) 10 (.pointer (some ⟨g10, 0, none⟩))) w := by
   intro g17 g21 g25 g8 g9 g10 w H; rw [hQ]
   refine Y.A1 15 rfl rfl <| Y.st 3 H rfl (cS rfl) rfl ?_
   clear H; intro w H; simp only [List.set_cons_zero, List.set_cons_succ, List.cons_append, List.nil_append, putL] at H
   refine Y.z <| ⟨H.reidx [6, 7] (by decide) rfl, ?_⟩
   rw [← hQ]
   exact qcast (by kernel_rfl) (s111111100 g17 g21 g25 g8 g9 g10 w (H))
  have s110111100 : ∀ (g17 g21 g8 g9 g10 : Nat) (w : World), SH w0 [] w ([⟨g17, 132, mkL n (stepCells default)⟩, ⟨g21, 3, mkL n [I 0]⟩, ⟨g8, 128, [.slice (some ⟨g17, 0, none⟩) n n]⟩, ⟨g9, 30, [.slice none 0 0]⟩, ⟨g10, 137, [.slice none 0 0]⟩] ++ [⟨g5, 30, [.slice Ap pots.length capp]⟩, ⟨g3, 127, [I n, .slice A l.length cap, .slice B on.length cap2]⟩]) → Q 3 #[true, true, true, true, true, true, true, true, true, true, true, false, true, true, true, true, false, false] (upd (upd (upd (upd (upd e0 17 (.slice (some ⟨g17, 0, none⟩) (n) (n))) 21 (.slice (some ⟨g21, 0, none⟩) (n) (n))) 8 (.pointer (some ⟨g8, 0, none⟩))) 9 (.pointer (some ⟨g9, 0, none⟩))) 10 (.pointer (some ⟨g10, 0, none⟩))) w := by
   intro g17 g21 g8 g9 g10 w H; rw [hQ]
   refine Y.A2 11 16 rfl rfl rfl ?_ ?_
   ·refine Y.mk H (sl_run rfl) ?_
    clear H; intro g25 w H
    refine Y.z <| ⟨H.reidx [6, 7] (by decide) rfl, ?_⟩
    rw [← hQ]
    rw [upd_comm (a := 10) (b := 25) rfl]
    rw [upd_comm (a := 9) (b := 25) rfl]
    rw [upd_comm (a := 8) (b := 25) rfl]
    exact qcast (by kernel_rfl) (s111111100 g17 g21 g25 g8 g9 g10 w (H.reidx [1, 2, 0, 3, 4, 5, 6, 7] (by decide) rfl))
   ·refine Y.st 3 H rfl (cS rfl) rfl ?_
    clear H; intro w H; simp only [List.set_cons_zero, List.set_cons_succ, List.cons_append, List.nil_append, putL] at H
    refine Y.z <| ⟨H.reidx [5, 6] (by decide) rfl, ?_⟩
    rw [← hQ]
    exact qcast (by kernel_rfl) (s110111110 g17 g21 g8 g9 g10 w (H))
  have s101111100 : ∀ (g17 g25 g8 g9 g10 : Nat) (w : World), SH w0 [] w ([⟨g17, 132, mkL n (stepCells default)⟩, ⟨g25, 4, mkL n [Bo false]⟩, ⟨g8, 128, [.slice (some ⟨g17, 0, none⟩) n n]⟩, ⟨g9, 30, [.slice none 0 0]⟩, ⟨g10, 137, [.slice none 0 0]⟩] ++ [⟨g5, 30, [.slice Ap pots.length capp]⟩, ⟨g3, 127, [I n, .slice A l.length cap, .slice B on.length cap2]⟩]) → Q 3 #[true, true, true, true, true, true, true, false, true, true, true, true, true, true, true, true, false, false] (upd (upd (upd (upd (upd e0 17 (.slice (some ⟨g17, 0, none⟩) (n) (n))) 25 (.slice (some ⟨g25, 0, none⟩) (n) (n))) 8 (.pointer (some ⟨g8, 0, none⟩))) 9 (.pointer (some ⟨g9, 0, none⟩))) 10 (.pointer (some ⟨g10, 0, none⟩))) w := by
   intro g17 g25 g8 g9 g10 w H; rw [hQ]
   refine Y.A1 7 rfl rfl <| Y.mk H (sl_run rfl) ?_
   clear H; intro g21 w H
   refine Y.z <| ⟨H.reidx [6, 7] (by decide) rfl, ?_⟩
   rw [← hQ]
   rw [upd_comm (a := 10) (b := 21) rfl]
   rw [upd_comm (a := 9) (b := 21) rfl]
   rw [upd_comm (a := 8) (b := 21) rfl]
   rw [upd_comm (a := 25) (b := 21) rfl]
   exact qcast (by kernel_rfl) (s111111100 g17 g21 g25 g8 g9 g10 w (H.reidx [1, 0, 2, 3, 4, 5, 6, 7] (by decide) rfl))
  clear s111111100 s110111110
  have s111110000 : ∀ (g17 g21 g25 g8 g9 : Nat) (w : World), SH w0 [] w ([⟨g17, 132, mkL n (stepCells default)⟩, ⟨g21, 3, mkL n [I 0]⟩, ⟨g25, 4, mkL n [Bo false]⟩, ⟨g8, 128, [.slice none 0 0]⟩, ⟨g9, 30, [.slice none 0 0]⟩] ++ [⟨g5, 30, [.slice Ap pots.length capp]⟩, ⟨g3, 127, [I n, .slice A l.length cap, .slice B on.length cap2]⟩]) → Q 4 #[true, true, true, true, true, true, true, true, true, true, true, true, true, true, false, false, false, false] (upd (upd (upd (upd (upd e0 17 (.slice (some ⟨g17, 0, none⟩) (n) (n))) 21 (.slice (some ⟨g21, 0, none⟩) (n) (n))) 25 (.slice (some ⟨g25, 0, none⟩) (n) (n))) 8 (.pointer (some ⟨g8, 0, none⟩))) 9 (.pointer (some ⟨g9, 0, none⟩))) w := by
   intro g17 g21 g25 g8 g9 w H; rw [hQ]
   refine Y.A1 14 rfl rfl <| Y.al H rfl rfl ?_
   clear H; intro g10 w H
   refine Y.z <| ⟨H.reidx [6, 7] (by decide) rfl, ?_⟩
   rw [← hQ]
   exact qcast (by kernel_rfl) (s111111000 g17 g21 g25 g8 g9 g10 w (H.reidx [1, 2, 3, 4, 5, 0, 6, 7] (by decide) rfl))
  have s111101000 : ∀ (g17 g21 g25 g8 g10 : Nat) (w : World), SH w0 [] w ([⟨g17, 132, mkL n (stepCells default)⟩, ⟨g21, 3, mkL n [I 0]⟩, ⟨g25, 4, mkL n [Bo false]⟩, ⟨g8, 128, [.slice none 0 0]⟩, ⟨g10, 137, [.slice none 0 0]⟩] ++ [⟨g5, 30, [.slice Ap pots.length capp]⟩, ⟨g3, 127, [I n, .slice A l.length cap, .slice B on.length cap2]⟩]) → Q 4 #[true, true, true, true, true, true, true, true, true, true, true, true, true, false, true, false, false, false] (upd (upd (upd (upd (upd e0 17 (.slice (some ⟨g17, 0, none⟩) (n) (n))) 21 (.slice (some ⟨g21, 0, none⟩) (n) (n))) 25 (.slice (some ⟨g25, 0, none⟩) (n) (n))) 8 (.pointer (some ⟨g8, 0, none⟩))) 10 (.pointer (some ⟨g10, 0, none⟩))) w := by
   intro g17 g21 g25 g8 g10 w H; rw [hQ]
   refine Y.A1 13 rfl rfl <| Y.al H rfl rfl ?_
   clear H; intro g9 w H
   refine Y.z <| ⟨H.reidx [6, 7] (by decide) rfl, ?_⟩
   rw [← hQ]
   rw [upd_comm (a := 10) (b := 9) rfl]
   exact qcast (by kernel_rfl) (s111111000 g17 g21 g25 g8 g9 g10 w (H.reidx [1, 2, 3, 4, 0, 5, 6, 7] (by decide) rfl))
  have s111011000 : ∀ (g17 g21 g25 g9 g10 : Nat) (w : World), SH w0 [] w ([⟨g17, 132, mkL n (stepCells default)⟩, ⟨g21, 3, mkL n [I 0]⟩, ⟨g25, 4, mkL n [Bo false]⟩, ⟨g9, 30, [.slice none 0 0]⟩, ⟨g10, 137, [.slice none 0 0]⟩] ++ [⟨g5, 30, [.slice Ap pots.length capp]⟩, ⟨g3, 127, [I n, .slice A l.length cap, .slice B on.length cap2]⟩]) → Q 4 #[true, true, true, true, true, true, true, true, true, true, true, true, false, true, true, false, false, false] (upd (upd (upd (upd (upd e0 17 (.slice (some ⟨g17, 0, none⟩) (n) (n))) 21 (.slice (some ⟨g21, 0, none⟩) (n) (n))) 25 (.slice (some ⟨g25, 0, none⟩) (n) (n))) 9 (.pointer (some ⟨g9, 0, none⟩))) 10 (.pointer (some ⟨g10, 0, none⟩))) w := by
   intro g17 g21 g25 g9 g10 w H; rw [hQ]
   refine Y.A1 12 rfl rfl <| Y.al H rfl rfl ?_
   clear H; intro g8 w H
   refine Y.z <| ⟨H.reidx [6, 7] (by decide) rfl, ?_⟩
   rw [← hQ]
   rw [upd_comm (a := 10) (b := 8) rfl]
   rw [upd_comm (a := 9) (b := 8) rfl]
   exact qcast (by kernel_rfl) (s111111000 g17 g21 g25 g8 g9 g10 w (H.reidx [1, 2, 3, 0, 4, 5, 6, 7] (by decide) rfl))
  have s110111000 : ∀ (g17 g21 g8 g9 g10 : Nat) (w : World), SH w0 [] w ([⟨g17, 132, mkL n (stepCells default)⟩, ⟨g21, 3, mkL n [I 0]⟩, ⟨g8, 128, [.slice none 0 0]⟩, ⟨g9, 30, [.slice none 0 0]⟩, ⟨g10, 137, [.slice none 0 0]⟩] ++ [⟨g5, 30, [.slice Ap pots.length capp]⟩, ⟨g3, 127, [I n, .slice A l.length cap, .slice B on.length cap2]⟩]) → Q 4 #[true, true, true, true, true, true, true, true, true, true, true, false, true, true, true, false, false, false] (upd (upd (upd (upd (upd e0 17 (.slice (some ⟨g17, 0, none⟩) (n) (n))) 21 (.slice (some ⟨g21, 0, none⟩) (n) (n))) 8 (.pointer (some ⟨g8, 0, none⟩))) 9 (.pointer (some ⟨g9, 0, none⟩))) 10 (.pointer (some ⟨g10, 0, none⟩))) w := by
   intro g17 g21 g8 g9 g10 w H; rw [hQ]
   refine Y.A2 11 15 rfl rfl rfl ?_ ?_
   ·refine Y.mk H (sl_run rfl) ?_
    clear H; intro g25 w H
    refine Y.z <| ⟨H.reidx [6, 7] (by decide) rfl, ?_⟩
    rw [← hQ]
    rw [upd_comm (a := 10) (b := 25) rfl]
    rw [upd_comm (a := 9) (b := 25) rfl]
    rw [upd_comm (a := 8) (b := 25) rfl]
    exact qcast (by kernel_rfl) (s111111000 g17 g21 g25 g8 g9 g10 w (H.reidx [1, 2, 0, 3, 4, 5, 6, 7] (by decide) rfl))
   ·refine Y.st 2 H rfl (cS rfl) rfl ?_
    clear H; intro w H; simp only [List.set_cons_zero, List.set_cons_succ, List.cons_append, List.nil_append, putL] at H
    refine Y.z <| ⟨H.reidx [5, 6] (by decide) rfl, ?_⟩
    rw [← hQ]
    exact qcast (by kernel_rfl) (s110111100 g17 g21 g8 g9 g10 w (H))
  have s101111000 : ∀ (g17 g25 g8 g9 g10 : Nat) (w : World), SH w0 [] w ([⟨g17, 132, mkL n (stepCells default)⟩, ⟨g25, 4, mkL n [Bo false]⟩, ⟨g8, 128, [.slice none 0 0]⟩, ⟨g9, 30, [.slice none 0 0]⟩, ⟨g10, 137, [.slice none 0 0]⟩] ++ [⟨g5, 30, [.slice Ap pots.length capp]⟩, ⟨g3, 127, [I n, .slice A l.length cap, .slice B on.length cap2]⟩]) → Q 4 #[true, true, true, true, true, true, true, false, true, true, true, true, true, true, true, false, false, false] (upd (upd (upd (upd (upd e0 17 (.slice (some ⟨g17, 0, none⟩) (n) (n))) 25 (.slice (some ⟨g25, 0, none⟩) (n) (n))) 8 (.pointer (some ⟨g8, 0, none⟩))) 9 (.pointer (some ⟨g9, 0, none⟩))) 10 (.pointer (some ⟨g10, 0, none⟩))) w := by
   intro g17 g25 g8 g9 g10 w H; rw [hQ]
   refine Y.A2 7 15 rfl rfl rfl ?_ ?_
   ·refine Y.mk H (sl_run rfl) ?_
    clear H; intro g21 w H
    refine Y.z <| ⟨H.reidx [6, 7] (by decide) rfl, ?_⟩
    rw [← hQ]
    rw [upd_comm (a := 10) (b := 21) rfl]
    rw [upd_comm (a := 9) (b := 21) rfl]
    rw [upd_comm (a := 8) (b := 21) rfl]
    rw [upd_comm (a := 25) (b := 21) rfl]
    exact qcast (by kernel_rfl) (s111111000 g17 g21 g25 g8 g9 g10 w (H.reidx [1, 0, 2, 3, 4, 5, 6, 7] (by decide) rfl))
   ·refine Y.st 2 H rfl (cS rfl) rfl ?_
    clear H; intro w H; simp only [List.set_cons_zero, List.set_cons_succ, List.cons_append, List.nil_append, putL] at H
    refine Y.z <| ⟨H.reidx [5, 6] (by decide) rfl, ?_⟩
    rw [← hQ]
    exact qcast (by kernel_rfl) (s101111100 g17 g25 g8 g9 g10 w (H))
  have s100111100 : ∀ (g17 g8 g9 g10 : Nat) (w : World), SH w0 [] w ([⟨g17, 132, mkL n (stepCells default)⟩, ⟨g8, 128, [.slice (some ⟨g17, 0, none⟩) n n]⟩, ⟨g9, 30, [.slice none 0 0]⟩, ⟨g10, 137, [.slice none 0 0]⟩] ++ [⟨g5, 30, [.slice Ap pots.length capp]⟩, ⟨g3, 127, [I n, .slice A l.length cap, .slice B on.length cap2]⟩]) → Q 4 #[true, true, true, true, true, true, true, false, true, true, true, false, true, true, true, true, false, false] (upd (upd (upd (upd e0 17 (.slice (some ⟨g17, 0, none⟩) (n) (n))) 8 (.pointer (some ⟨g8, 0, none⟩))) 9 (.pointer (some ⟨g9, 0, none⟩))) 10 (.pointer (some ⟨g10, 0, none⟩))) w := by
   intro g17 g8 g9 g10 w H; rw [hQ]
   refine Y.A2 7 11 rfl rfl rfl ?_ ?_
   ·refine Y.mk H (sl_run rfl) ?_
    clear H; intro g21 w H
    refine Y.z <| ⟨H.reidx [5, 6] (by decide) rfl, ?_⟩
    rw [← hQ]
    rw [upd_comm (a := 10) (b := 21) rfl]
    rw [upd_comm (a := 9) (b := 21) rfl]
    rw [upd_comm (a := 8) (b := 21) rfl]
    exact qcast (by kernel_rfl) (s110111100 g17 g21 g8 g9 g10 w (H.reidx [1, 0, 2, 3, 4, 5, 6] (by decide) rfl))
   ·refine Y.mk H (sl_run rfl) ?_
    clear H; intro g25 w H
    refine Y.z <| ⟨H.reidx [5, 6] (by decide) rfl, ?_⟩
    rw [← hQ]
    rw [upd_comm (a := 10) (b := 25) rfl]
    rw [upd_comm (a := 9) (b := 25) rfl]
    rw [upd_comm (a := 8) (b := 25) rfl]
    exact qcast (by kernel_rfl) (s101111100 g17 g25 g8 g9 g10 w (H.reidx [1, 0, 2, 3, 4, 5, 6] (by decide) rfl))
  have s011111000 : ∀ (g21 g25 g8 g9 g10 : Nat) (w : World), SH w0 [] w ([⟨g21, 3, mkL n [I 0]⟩, ⟨g25, 4, mkL n [Bo false]⟩, ⟨g8, 128, [.slice none 0 0]⟩, ⟨g9, 30, [.slice none 0 0]⟩, ⟨g10, 137, [.slice none 0 0]⟩] ++ [⟨g5, 30, [.slice Ap pots.length capp]⟩, ⟨g3, 127, [I n, .slice A l.length cap, .slice B on.length cap2]⟩]) → Q 4 #[true, true, true, false, true, true, true, true, true, true, true, true, true, true, true, false, false, false] (upd (upd (upd (upd (upd e0 21 (.slice (some ⟨g21, 0, none⟩) (n) (n))) 25 (.slice (some ⟨g25, 0, none⟩) (n) (n))) 8 (.pointer (some ⟨g8, 0, none⟩))) 9 (.pointer (some ⟨g9, 0, none⟩))) 10 (.pointer (some ⟨g10, 0, none⟩))) w := by
   intro g21 g25 g8 g9 g10 w H; rw [hQ]
   refine Y.A1 3 rfl rfl <| Y.mk H (sl_run rfl) ?_
   clear H; intro g17 w H
   refine Y.z <| ⟨H.reidx [6, 7] (by decide) rfl, ?_⟩
   rw [← hQ]
   rw [upd_comm (a := 10) (b := 17) rfl]
   rw [upd_comm (a := 9) (b := 17) rfl]
   rw [upd_comm (a := 8) (b := 17) rfl]
   rw [upd_comm (a := 25) (b := 17) rfl]
   rw [upd_comm (a := 21) (b := 17) rfl]
   exact qcast (by kernel_rfl) (s111111000 g17 g21 g25 g8 g9 g10 w (H.reidx [0, 1, 2, 3, 4, 5, 6, 7] (by decide) rfl))
  clear s111111000 s110111100 s101111100
  have s111100000 : ∀ (g17 g21 g25 g8 : Nat) (w : World), SH w0 [] w ([⟨g17, 132, mkL n (stepCells default)⟩, ⟨g21, 3, mkL n [I 0]⟩, ⟨g25, 4, mkL n [Bo false]⟩, ⟨g8, 128, [.slice none 0 0]⟩] ++ [⟨g5, 30, [.slice Ap pots.length capp]⟩, ⟨g3, 127, [I n, .slice A l.length cap, .slice B on.length cap2]⟩]) → Q 5 #[true, true, true, true, true, true, true, true, true, true, true, true, true, false, false, false, false, false] (upd (upd (upd (upd e0 17 (.slice (some ⟨g17, 0, none⟩) (n) (n))) 21 (.slice (some ⟨g21, 0, none⟩) (n) (n))) 25 (.slice (some ⟨g25, 0, none⟩) (n) (n))) 8 (.pointer (some ⟨g8, 0, none⟩))) w := by
   intro g17 g21 g25 g8 w H; rw [hQ]
   refine Y.A2 13 14 rfl rfl rfl ?_ ?_
   ·refine Y.al H rfl rfl ?_
    clear H; intro g9 w H
    refine Y.z <| ⟨H.reidx [5, 6] (by decide) rfl, ?_⟩
    rw [← hQ]
    exact qcast (by kernel_rfl) (s111110000 g17 g21 g25 g8 g9 w (H.reidx [1, 2, 3, 4, 0, 5, 6] (by decide) rfl))
   ·refine Y.al H rfl rfl ?_
    clear H; intro g10 w H
    refine Y.z <| ⟨H.reidx [5, 6] (by decide) rfl, ?_⟩
    rw [← hQ]
    exact qcast (by kernel_rfl) (s111101000 g17 g21 g25 g8 g10 w (H.reidx [1, 2, 3, 4, 0, 5, 6] (by decide) rfl))
  have s111010000 : ∀ (g17 g21 g25 g9 : Nat) (w : World), SH w0 [] w ([⟨g17, 132, mkL n (stepCells default)⟩, ⟨g21, 3, mkL n [I 0]⟩, ⟨g25, 4, mkL n [Bo false]⟩, ⟨g9, 30, [.slice none 0 0]⟩] ++ [⟨g5, 30, [.slice Ap pots.length capp]⟩, ⟨g3, 127, [I n, .slice A l.length cap, .slice B on.length cap2]⟩]) → Q 5 #[true, true, true, true, true, true, true, true, true, true, true, true, false, true, false, false, false, false] (upd (upd (upd (upd e0 17 (.slice (some ⟨g17, 0, none⟩) (n) (n))) 21 (.slice (some ⟨g21, 0, none⟩) (n) (n))) 25 (.slice (some ⟨g25, 0, none⟩) (n) (n))) 9 (.pointer (some ⟨g9, 0, none⟩))) w := by
   intro g17 g21 g25 g9 w H; rw [hQ]
   refine Y.A2 12 14 rfl rfl rfl ?_ ?_
   ·refine Y.al H rfl rfl ?_
    clear H; intro g8 w H
    refine Y.z <| ⟨H.reidx [5, 6] (by decide) rfl, ?_⟩
    rw [← hQ]
    rw [upd_comm (a := 9) (b := 8) rfl]
    exact qcast (by kernel_rfl) (s111110000 g17 g21 g25 g8 g9 w (H.reidx [1, 2, 3, 0, 4, 5, 6] (by decide) rfl))
   ·refine Y.al H rfl rfl ?_
    clear H; intro g10 w H
    refine Y.z <| ⟨H.reidx [5, 6] (by decide) rfl, ?_⟩
    rw [← hQ]
    exact qcast (by kernel_rfl) (s111011000 g17 g21 g25 g9 g10 w (H.reidx [1, 2, 3, 4, 0, 5, 6] (by decide) rfl))
  have s111001000 : ∀ (g17 g21 g25 g10 : Nat) (w : World), SH w0 [] w ([⟨g17, 132, mkL n (stepCells default)⟩, ⟨g21, 3, mkL n [I 0]⟩, ⟨g25, 4, mkL n [Bo false]⟩, ⟨g10, 137, [.slice none 0 0]⟩] ++ [⟨g5, 30, [.slice Ap pots.length capp]⟩, ⟨g3, 127, [I n, .slice A l.length cap, .slice B on.length cap2]⟩]) → Q 5 #[true, true, true, true, true, true, true, true, true, true, true, true, false, false, true, false, false, false] (upd (upd (upd (upd e0 17 (.slice (some ⟨g17, 0, none⟩) (n) (n))) 21 (.slice (some ⟨g21, 0, none⟩) (n) (n))) 25 (.slice (some ⟨g25, 0, none⟩) (n) (n))) 10 (.pointer (some ⟨g10, 0, none⟩))) w := by
   intro g17 g21 g25 g10 w H; rw [hQ]
   refine Y.A2 12 13 rfl rfl rfl ?_ ?_
   ·refine Y.al H rfl rfl ?_
    clear H; intro g8 w H
    refine Y.z <| ⟨H.reidx [5, 6] (by decide) rfl, ?_⟩
    rw [← hQ]
    rw [upd_comm (a := 10) (b := 8) rfl]
    exact qcast (by kernel_rfl) (s111101000 g17 g21 g25 g8 g10 w (H.reidx [1, 2, 3, 0, 4, 5, 6] (by decide) rfl))
   ·refine Y.al H rfl rfl ?_
    clear H; intro g9 w H
    refine Y.z <| ⟨H.reidx [5, 6] (by decide) rfl, ?_⟩
    rw [← hQ]
    rw [upd_comm (a := 10) (b := 9) rfl]
    exact qcast (by kernel_rfl) (s111011000 g17 g21 g25 g9 g10 w (H.reidx [1, 2, 3, 0, 4, 5, 6] (by decide) rfl))
  have s110110000 : ∀ (g17 g21 g8 g9 : Nat) (w : World), SH w0 [] w ([⟨g17, 132, mkL n (stepCells default)⟩, ⟨g21, 3, mkL n [I 0]⟩, ⟨g8, 128, [.slice none 0 0]⟩, ⟨g9, 30, [.slice none 0 0]⟩] ++ [⟨g5, 30, [.slice Ap pots.length capp]⟩, ⟨g3, 127, [I n, .slice A l.length cap, .slice B on.length cap2]⟩]) → Q 5 #[true, true, true, true, true, true, true, true, true, true, true, false, true, true, false, false, false, false] (upd (upd (upd (upd e0 17 (.slice (some ⟨g17, 0, none⟩) (n) (n))) 21 (.slice (some ⟨g21, 0, none⟩) (n) (n))) 8 (.pointer (some ⟨g8, 0, none⟩))) 9 (.pointer (some ⟨g9, 0, none⟩))) w := by
   intro g17 g21 g8 g9 w H; rw [hQ]
   refine Y.A2 11 14 rfl rfl rfl ?_ ?_
   ·refine Y.mk H (sl_run rfl) ?_
    clear H; intro g25 w H
    refine Y.z <| ⟨H.reidx [5, 6] (by decide) rfl, ?_⟩
    rw [← hQ]
    rw [upd_comm (a := 9) (b := 25) rfl]
    rw [upd_comm (a := 8) (b := 25) rfl]
    exact qcast (by kernel_rfl) (s111110000 g17 g21 g25 g8 g9 w (H.reidx [1, 2, 0, 3, 4, 5, 6] (by decide) rfl))
   ·refine Y.al H rfl rfl ?_
    clear H; intro g10 w H
    refine Y.z <| ⟨H.reidx [5, 6] (by decide) rfl, ?_⟩
    rw [← hQ]
    exact qcast (by kernel_rfl) (s110111000 g17 g21 g8 g9 g10 w (H.reidx [1, 2, 3, 4, 0, 5, 6] (by decide) rfl))
  have s110101000 : ∀ (g17 g21 g8 g10 : Nat) (w : World), SH w0 [] w ([⟨g17, 132, mkL n (stepCells default)⟩, ⟨g21, 3, mkL n [I 0]⟩, ⟨g8, 128, [.slice none 0 0]⟩, ⟨g10, 137, [.slice none 0 0]⟩] ++ [⟨g5, 30, [.slice Ap pots.length capp]⟩, ⟨g3, 127, [I n, .slice A l.length cap, .slice B on.length cap2]⟩]) → Q 5 #[true, true, true, true, true, true, true, true, true, true, true, false, true, false, true, false, false, false] (upd (upd (upd (upd e0 17 (.slice (some ⟨g17, 0, none⟩) (n) (n))) 21 (.slice (some ⟨g21, 0, none⟩) (n) (n))) 8 (.pointer (some ⟨g8, 0, none⟩))) 10 (.pointer (some ⟨g10, 0, none⟩))) w := by
   intro g17 g21 g8 g10 w H; rw [hQ]
   refine Y.A2 11 13 rfl rfl rfl ?_ ?_
   ·refine Y.mk H (sl_run rfl) ?_
    clear H; intro g25 w H
    refine Y.z <| ⟨H.reidx [5, 6] (by decide) rfl, ?_⟩
    rw [← hQ]
    rw [upd_comm (a := 10) (b := 25) rfl]
    rw [upd_comm (a := 8) (b := 25) rfl]
    exact qcast (by kernel_rfl) (s111101000 g17 g21 g25 g8 g10 w (H.reidx [1, 2, 0, 3, 4, 5, 6] (by decide) rfl))
   ·refine Y.al H rfl rfl ?_
    clear H; intro g9 w H
    refine Y.z <| ⟨H.reidx [5, 6] (by decide) rfl, ?_⟩
    rw [← hQ]
    rw [upd_comm (a := 10) (b := 9) rfl]
    exact qcast (by kernel_rfl) (s110111000 g17 g21 g8 g9 g10 w (H.reidx [1, 2, 3, 0, 4, 5, 6] (by decide) rfl))
  have s110011000 : ∀ (g17 g21 g9 g10 : Nat) (w : World), SH w0 [] w ([⟨g17, 132, mkL n (stepCells default)⟩, ⟨g21, 3, mkL n [I 0]⟩, ⟨g9, 30, [.slice none 0 0]⟩, ⟨g10, 137, [.slice none 0 0]⟩] ++ [⟨g5, 30, [.slice Ap pots.length capp]⟩, ⟨g3, 127, [I n, .slice A l.length cap, .slice B on.length cap2]⟩]) → Q 5 #[true, true, true, true, true, true, true, true, true, true, true, false, false, true, true, false, false, false] (upd (upd (upd (upd e0 17 (.slice (some ⟨g17, 0, none⟩) (n) (n))) 21 (.slice (some ⟨g21, 0, none⟩) (n) (n))) 9 (.pointer (some ⟨g9, 0, none⟩))) 10 (.pointer (some ⟨g10, 0, none⟩))) w := by
   intro g17 g21 g9 g10 w H; rw [hQ]
   refine Y.A2 11 12 rfl rfl rfl ?_ ?_
   ·refine Y.mk H (sl_run rfl) ?_
    clear H; intro g25 w H
    refine Y.z <| ⟨H.reidx [5, 6] (by decide) rfl, ?_⟩
    rw [← hQ]
    rw [upd_comm (a := 10) (b := 25) rfl]
    rw [upd_comm (a := 9) (b := 25) rfl]
    exact qcast (by kernel_rfl) (s111011000 g17 g21 g25 g9 g10 w (H.reidx [1, 2, 0, 3, 4, 5, 6] (by decide) rfl))
   ·refine Y.al H rfl rfl ?_
    clear H; intro g8 w H
    refine Y.z <| ⟨H.reidx [5, 6] (by decide) rfl, ?_⟩
    rw [← hQ]
    rw [upd_comm (a := 10) (b := 8) rfl]
    rw [upd_comm (a := 9) (b := 8) rfl]
    exact qcast (by kernel_rfl) (s110111000 g17 g21 g8 g9 g10 w (H.reidx [1, 2, 0, 3, 4, 5, 6] (by decide) rfl))
  have s101110000 : ∀ (g17 g25 g8 g9 : Nat) (w : World), SH w0 [] w ([⟨g17, 132, mkL n (stepCells default)⟩, ⟨g25, 4, mkL n [Bo false]⟩, ⟨g8, 128, [.slice none 0 0]⟩, ⟨g9, 30, [.slice none 0 0]⟩] ++ [⟨g5, 30, [.slice Ap pots.length capp]⟩, ⟨g3, 127, [I n, .slice A l.length cap, .slice B on.length cap2]⟩]) → Q 5 #[true, true, true, true, true, true, true, false, true, true, true, true, true, true, false, false, false, false] (upd (upd (upd (upd e0 17 (.slice (some ⟨g17, 0, none⟩) (n) (n))) 25 (.slice (some ⟨g25, 0, none⟩) (n) (n))) 8 (.pointer (some ⟨g8, 0, none⟩))) 9 (.pointer (some ⟨g9, 0, none⟩))) w := by
   intro g17 g25 g8 g9 w H; rw [hQ]
   refine Y.A2 7 14 rfl rfl rfl ?_ ?_
   ·refine Y.mk H (sl_run rfl) ?_
    clear H; intro g21 w H
    refine Y.z <| ⟨H.reidx [5, 6] (by decide) rfl, ?_⟩
    rw [← hQ]
    rw [upd_comm (a := 9) (b := 21) rfl]
    rw [upd_comm (a := 8) (b := 21) rfl]
    rw [upd_comm (a := 25) (b := 21) rfl]
    exact qcast (by kernel_rfl) (s111110000 g17 g21 g25 g8 g9 w (H.reidx [1, 0, 2, 3, 4, 5, 6] (by decide) rfl))
   ·refine Y.al H rfl rfl ?_
    clear H; intro g10 w H
    refine Y.z <| ⟨H.reidx [5, 6] (by decide) rfl, ?_⟩
    rw [← hQ]
    exact qcast (by kernel_rfl) (s101111000 g17 g25 g8 g9 g10 w (H.reidx [1, 2, 3, 4, 0, 5, 6] (by decide) rfl))
  have s101101000 : ∀ (g17 g25 g8 g10 : Nat) (w : World), SH w0 [] w ([⟨g17, 132, mkL n (stepCells default)⟩, ⟨g25, 4, mkL n [Bo false]⟩, ⟨g8, 128, [.slice none 0 0]⟩, ⟨g10, 137, [.slice none 0 0]⟩] ++ [⟨g5, 30, [.slice Ap pots.length capp]⟩, ⟨g3, 127, [I n, .slice A l.length cap, .slice B on.length cap2]⟩]) → Q 5 #[true, true, true, true, true, true, true, false, true, true, true, true, true, false, true, false, false, false] (upd (upd (upd (upd e0 17 (.slice (some ⟨g17, 0, none⟩) (n) (n))) 25 (.slice (some ⟨g25, 0, none⟩) (n) (n))) 8 (.pointer (some ⟨g8, 0, none⟩))) 10 (.pointer (some ⟨g10, 0, none⟩))) w := by
   intro g17 g25 g8 g10 w H; rw [hQ]
   refine Y.A2 7 13 rfl rfl rfl ?_ ?_
   ·refine Y.mk H (sl_run rfl) ?_
    clear H; intro g21 w H
    refine Y.z <| ⟨H.reidx [5, 6] (by decide) rfl, ?_⟩
    rw [← hQ]
    rw [upd_comm (a := 10) (b := 21) rfl]
    rw [upd_comm (a := 8) (b := 21) rfl]
    rw [upd_comm (a := 25) (b := 21) rfl]
    exact qcast (by kernel_rfl) (s111101000 g17 g21 g25 g8 g10 w (H.reidx [1, 0, 2, 3, 4, 5, 6] (by decide) rfl))
   ·refine Y.al H rfl rfl ?_
    clear H; intro g9 w H
    refine Y.z <| ⟨H.reidx [5, 6] (by decide) rfl, ?_⟩
    rw [← hQ]
    rw [upd_comm (a := 10) (b := 9) rfl]
    exact qcast (by kernel_rfl) (s101111000 g17 g25 g8 g9 g10 w (H.reidx [1, 2, 3, 0, 4, 5, 6] (by decide) rfl))
  have s101011000 : ∀ (g17 g25 g9 g10 : Nat) (w : World), SH w0 [] w ([⟨g17, 132, mkL n (stepCells default)⟩, ⟨g25, 4, mkL n [Bo false]⟩, ⟨g9, 30, [.slice none 0 0]⟩, ⟨g10, 137, [.slice none 0 0]⟩] ++ [⟨g5, 30, [.slice Ap pots.length capp]⟩, ⟨g3, 127, [I n, .slice A l.length cap, .slice B on.length cap2]⟩]) → Q 5 #[true, true, true, true, true, true, true, false, true, true, true, true, false, true, true, false, false, false] (upd (upd (upd (upd e0 17 (.slice (some ⟨g17, 0, none⟩) (n) (n))) 25 (.slice (some ⟨g25, 0, none⟩) (n) (n))) 9 (.pointer (some ⟨g9, 0, none⟩))) 10 (.pointer (some ⟨g10, 0, none⟩))) w := by
   intro g17 g25 g9 g10 w H; rw [hQ]
   refine Y.A2 7 12 rfl rfl rfl ?_ ?_
   ·refine Y.mk H (sl_run rfl) ?_
    clear H; intro g21 w H
    refine Y.z <| ⟨H.reidx [5, 6] (by decide) rfl, ?_⟩
    rw [← hQ]
    rw [upd_comm (a := 10) (b := 21) rfl]
    rw [upd_comm (a := 9) (b := 21) rfl]
    rw [upd_comm (a := 25) (b := 21) rfl]
    exact qcast (by kernel_rfl) (s111011000 g17 g21 g25 g9 g10 w (H.reidx [1, 0, 2, 3, 4, 5, 6] (by decide) rfl))
   ·refine Y.al H rfl rfl ?_
    clear H; intro g8 w H
    refine Y.z <| ⟨H.reidx [5, 6] (by decide) rfl, ?_⟩
    rw [← hQ]
    rw [upd_comm (a := 10) (b := 8) rfl]
    rw [upd_comm (a := 9) (b := 8) rfl]
    exact qcast (by kernel_rfl) (s101111000 g17 g25 g8 g9 g10 w (H.reidx [1, 2, 0, 3, 4, 5, 6] (by decide) rfl))
  have s100111000 : ∀ (g17 g8 g9 g10 : Nat) (w : World), SH w0 [] w ([⟨g17, 132, mkL n (stepCells default)⟩, ⟨g8, 128, [.slice none 0 0]⟩, ⟨g9, 30, [.slice none 0 0]⟩, ⟨g10, 137, [.slice none 0 0]⟩] ++ [⟨g5, 30, [.slice Ap pots.length capp]⟩, ⟨g3, 127, [I n, .slice A l.length cap, .slice B on.length cap2]⟩]) → Q 5 #[true, true, true, true, true, true, true, false, true, true, true, false, true, true, true, false, false, false] (upd (upd (upd (upd e0 17 (.slice (some ⟨g17, 0, none⟩) (n) (n))) 8 (.pointer (some ⟨g8, 0, none⟩))) 9 (.pointer (some ⟨g9, 0, none⟩))) 10 (.pointer (some ⟨g10, 0, none⟩))) w := by
   intro g17 g8 g9 g10 w H; rw [hQ]
   refine Y.A [7, 11, 15] rfl ⟨⟨_, rfl, ?_⟩, ⟨_, rfl, ?_⟩, ⟨_, rfl, ?_⟩, trivial⟩
   ·refine Y.mk H (sl_run rfl) ?_
    clear H; intro g21 w H
    refine Y.z <| ⟨H.reidx [5, 6] (by decide) rfl, ?_⟩
    rw [← hQ]
    rw [upd_comm (a := 10) (b := 21) rfl]
    rw [upd_comm (a := 9) (b := 21) rfl]
    rw [upd_comm (a := 8) (b := 21) rfl]
    exact qcast (by kernel_rfl) (s110111000 g17 g21 g8 g9 g10 w (H.reidx [1, 0, 2, 3, 4, 5, 6] (by decide) rfl))
   ·refine Y.mk H (sl_run rfl) ?_
    clear H; intro g25 w H
    refine Y.z <| ⟨H.reidx [5, 6] (by decide) rfl, ?_⟩
    rw [← hQ]
    rw [upd_comm (a := 10) (b := 25) rfl]
    rw [upd_comm (a := 9) (b := 25) rfl]
    rw [upd_comm (a := 8) (b := 25) rfl]
    exact qcast (by kernel_rfl) (s101111000 g17 g25 g8 g9 g10 w (H.reidx [1, 0, 2, 3, 4, 5, 6] (by decide) rfl))
   ·refine Y.st 1 H rfl (cS rfl) rfl ?_
    clear H; intro w H; simp only [List.set_cons_zero, List.set_cons_succ, List.cons_append, List.nil_append, putL] at H
    refine Y.z <| ⟨H.reidx [4, 5] (by decide) rfl, ?_⟩
    rw [← hQ]
    exact qcast (by kernel_rfl) (s100111100 g17 g8 g9 g10 w (H))
  have s011110000 : ∀ (g21 g25 g8 g9 : Nat) (w : World), SH w0 [] w ([⟨g21, 3, mkL n [I 0]⟩, ⟨g25, 4, mkL n [Bo false]⟩, ⟨g8, 128, [.slice none 0 0]⟩, ⟨g9, 30, [.slice none 0 0]⟩] ++ [⟨g5, 30, [.slice Ap pots.length capp]⟩, ⟨g3, 127, [I n, .slice A l.length cap, .slice B on.length cap2]⟩]) → Q 5 #[true, true, true, false, true, true, true, true, true, true, true, true, true, true, false, false, false, false] (upd (upd (upd (upd e0 21 (.slice (some ⟨g21, 0, none⟩) (n) (n))) 25 (.slice (some ⟨g25, 0, none⟩) (n) (n))) 8 (.pointer (some ⟨g8, 0, none⟩))) 9 (.pointer (some ⟨g9, 0, none⟩))) w := by
   intro g21 g25 g8 g9 w H; rw [hQ]
   refine Y.A2 3 14 rfl rfl rfl ?_ ?_
   ·refine Y.mk H (sl_run rfl) ?_
    clear H; intro g17 w H
    refine Y.z <| ⟨H.reidx [5, 6] (by decide) rfl, ?_⟩
    rw [← hQ]
    rw [upd_comm (a := 9) (b := 17) rfl]
    rw [upd_comm (a := 8) (b := 17) rfl]
    rw [upd_comm (a := 25) (b := 17) rfl]
    rw [upd_comm (a := 21) (b := 17) rfl]
    exact qcast (by kernel_rfl) (s111110000 g17 g21 g25 g8 g9 w (H.reidx [0, 1, 2, 3, 4, 5, 6] (by decide) rfl))
   ·refine Y.al H rfl rfl ?_
    clear H; intro g10 w H
    refine Y.z <| ⟨H.reidx [5, 6] (by decide) rfl, ?_⟩
    rw [← hQ]
    exact qcast (by kernel_rfl) (s011111000 g21 g25 g8 g9 g10 w (H.reidx [1, 2, 3, 4, 0, 5, 6] (by decide) rfl))
  have s011101000 : ∀ (g21 g25 g8 g10 : Nat) (w : World), SH w0 [] w ([⟨g21, 3, mkL n [I 0]⟩, ⟨g25, 4, mkL n [Bo false]⟩, ⟨g8, 128, [.slice none 0 0]⟩, ⟨g10, 137, [.slice none 0 0]⟩] ++ [⟨g5, 30, [.slice Ap pots.length capp]⟩, ⟨g3, 127, [I n, .slice A l.length cap, .slice B on.length cap2]⟩]) → Q 5 #[true, true, true, false, true, true, true, true, true, true, true, true, true, false, true, false, false, false] (upd (upd (upd (upd e0 21 (.slice (some ⟨g21, 0, none⟩) (n) (n))) 25 (.slice (some ⟨g25, 0, none⟩) (n) (n))) 8 (.pointer (some ⟨g8, 0, none⟩))) 10 (.pointer (some ⟨g10, 0, none⟩))) w := by
   intro g21 g25 g8 g10 w H; rw [hQ]
   refine Y.A2 3 13 rfl rfl rfl ?_ ?_
   ·refine Y.mk H (sl_run rfl) ?_
    clear H; intro g17 w H
    refine Y.z <| ⟨H.reidx [5, 6] (by decide) rfl, ?_⟩
    rw [← hQ]
    rw [upd_comm (a := 10) (b := 17) rfl]
    rw [upd_comm (a := 8) (b := 17) rfl]
    rw [upd_comm (a := 25) (b := 17) rfl]
    rw [upd_comm (a := 21) (b := 17) rfl]
    exact qcast (by kernel_rfl) (s111101000 g17 g21 g25 g8 g10 w (H.reidx [0, 1, 2, 3, 4, 5, 6] (by decide) rfl))
   ·refine Y.al H rfl rfl ?_
    clear H; intro g9 w H
    refine Y.z <| ⟨H.reidx [5, 6] (by decide) rfl, ?_⟩
    rw [← hQ]
    rw [upd_comm (a := 10) (b := 9) rfl]
    exact qcast (by kernel_rfl) (s011111000 g21 g25 g8 g9 g10 w (H.reidx [1, 2, 3, 0, 4, 5, 6] (by decide) rfl))
  have s011011000 : ∀ (g21 g25 g9 g10 : Nat) (w : World), SH w0 [] w ([⟨g21, 3, mkL n [I 0]⟩, ⟨g25, 4, mkL n [Bo false]⟩, ⟨g9, 30, [.slice none 0 0]⟩, ⟨g10, 137, [.slice none 0 0]⟩] ++ [⟨g5, 30, [.slice Ap pots.length capp]⟩, ⟨g3, 127, [I n, .slice A l.length cap, .slice B on.length cap2]⟩]) → Q 5 #[true, true, true, false, true, true, true, true, true, true, true, true, false, true, true, false, false, false] (upd (upd (upd (upd e0 21 (.slice (some ⟨g21, 0, none⟩) (n) (n))) 25 (.slice (some ⟨g25, 0, none⟩) (n) (n))) 9 (.pointer (some ⟨g9, 0, none⟩))) 10 (.pointer (some ⟨g10, 0, none⟩))) w := by
   intro g21 g25 g9 g10 w H; rw [hQ]
   refine Y.A2 3 12 rfl rfl rfl ?_ ?_
   ·refine Y.mk H (sl_run rfl) ?_
    clear H; intro g17 w H
    refine Y.z <| ⟨H.reidx [5, 6] (by decide) rfl, ?_⟩
    rw [← hQ]
    rw [upd_comm (a := 10) (b := 17) rfl]
    rw [upd_comm (a := 9) (b := 17) rfl]
    rw [upd_comm (a := 25) (b := 17) rfl]
    rw [upd_comm (a := 21) (b := 17) rfl]
    exact qcast (by kernel_rfl) (s111011000 g17 g21 g25 g9 g10 w (H.reidx [0, 1, 2, 3, 4, 5, 6] (by decide) rfl))
   ·refine Y.al H rfl rfl ?_
    clear H; intro g8 w H
    refine Y.z <| ⟨H.reidx [5, 6] (by decide) rfl, ?_⟩
    rw [← hQ]
    rw [upd_comm (a := 10) (b := 8) rfl]
    rw [upd_comm (a := 9) (b := 8) rfl]
    exact qcast (by kernel_rfl) (s011111000 g21 g25 g8 g9 g10 w (H.reidx [1, 2, 0, 3, 4, 5, 6] (by decide) rfl))
  have s010111000 : ∀ (g21 g8 g9 g10 : Nat) (w : World), SH w0 [] w ([⟨g21, 3, mkL n [I 0]⟩, ⟨g8, 128, [.slice none 0 0]⟩, ⟨g9, 30, [.slice none 0 0]⟩, ⟨g10, 137, [.slice none 0 0]⟩] ++ [⟨g5, 30, [.slice Ap pots.length capp]⟩, ⟨g3, 127, [I n, .slice A l.length cap, .slice B on.length cap2]⟩]) → Q 5 #[true, true, true, false, true, true, true, true, true, true, true, false, true, true, true, false, false, false] (upd (upd (upd (upd e0 21 (.slice (some ⟨g21, 0, none⟩) (n) (n))) 8 (.pointer (some ⟨g8, 0, none⟩))) 9 (.pointer (some ⟨g9, 0, none⟩))) 10 (.pointer (some ⟨g10, 0, none⟩))) w := by
   intro g21 g8 g9 g10 w H; rw [hQ]
   refine Y.A2 3 11 rfl rfl rfl ?_ ?_
   ·refine Y.mk H (sl_run rfl) ?_
    clear H; intro g17 w H
    refine Y.z <| ⟨H.reidx [5, 6] (by decide) rfl, ?_⟩
    rw [← hQ]
    rw [upd_comm (a := 10) (b := 17) rfl]
    rw [upd_comm (a := 9) (b := 17) rfl]
    rw [upd_comm (a := 8) (b := 17) rfl]
    rw [upd_comm (a := 21) (b := 17) rfl]
    exact qcast (by kernel_rfl) (s110111000 g17 g21 g8 g9 g10 w (H.reidx [0, 1, 2, 3, 4, 5, 6] (by decide) rfl))
   ·refine Y.mk H (sl_run rfl) ?_
    clear H; intro g25 w H
    refine Y.z <| ⟨H.reidx [5, 6] (by decide) rfl, ?_⟩
    rw [← hQ]
    rw [upd_comm (a := 10) (b := 25) rfl]
    rw [upd_comm (a := 9) (b := 25) rfl]
    rw [upd_comm (a := 8) (b := 25) rfl]
    exact qcast (by kernel_rfl) (s011111000 g21 g25 g8 g9 g10 w (H.reidx [1, 0, 2, 3, 4, 5, 6] (by decide) rfl))
  have s001111000 : ∀ (g25 g8 g9 g10 : Nat) (w : World), SH w0 [] w ([⟨g25, 4, mkL n [Bo false]⟩, ⟨g8, 128, [.slice none 0 0]⟩, ⟨g9, 30, [.slice none 0 0]⟩, ⟨g10, 137, [.slice none 0 0]⟩] ++ [⟨g5, 30, [.slice Ap pots.length capp]⟩, ⟨g3, 127, [I n, .slice A l.length cap, .slice B on.length cap2]⟩]) → Q 5 #[true, true, true, false, true, true, true, false, true, true, true, true, true, true, true, false, false, false] (upd (upd (upd (upd e0 25 (.slice (some ⟨g25, 0, none⟩) (n) (n))) 8 (.pointer (some ⟨g8, 0, none⟩))) 9 (.pointer (some ⟨g9, 0, none⟩))) 10 (.pointer (some ⟨g10, 0, none⟩))) w := by
   intro g25 g8 g9 g10 w H; rw [hQ]
   refine Y.A2 3 7 rfl rfl rfl ?_ ?_
   ·refine Y.mk H (sl_run rfl) ?_
    clear H; intro g17 w H
    refine Y.z <| ⟨H.reidx [5, 6] (by decide) rfl, ?_⟩
    rw [← hQ]
    rw [upd_comm (a := 10) (b := 17) rfl]
    rw [upd_comm (a := 9) (b := 17) rfl]
    rw [upd_comm (a := 8) (b := 17) rfl]
    rw [upd_comm (a := 25) (b := 17) rfl]
    exact qcast (by kernel_rfl) (s101111000 g17 g25 g8 g9 g10 w (H.reidx [0, 1, 2, 3, 4, 5, 6] (by decide) rfl))
   ·refine Y.mk H (sl_run rfl) ?_
    clear H; intro g21 w H
    refine Y.z <| ⟨H.reidx [5, 6] (by decide) rfl, ?_⟩
    rw [← hQ]
    rw [upd_comm (a := 10) (b := 21) rfl]
    rw [upd_comm (a := 9) (b := 21) rfl]
    rw [upd_comm (a := 8) (b := 21) rfl]
    rw [upd_comm (a := 25) (b := 21) rfl]
    exact qcast (by kernel_rfl) (s011111000 g21 g25 g8 g9 g10 w (H.reidx [0, 1, 2, 3, 4, 5, 6] (by decide) rfl))
  clear s111110000 s111101000 s111011000 s110111000 s101111000 s100111100 s011111000
  have s111000000 : ∀ (g17 g21 g25 : Nat) (w : World), SH w0 [] w ([⟨g17, 132, mkL n (stepCells default)⟩, ⟨g21, 3, mkL n [I 0]⟩, ⟨g25, 4, mkL n [Bo false]⟩] ++ [⟨g5, 30, [.slice Ap pots.length capp]⟩, ⟨g3, 127, [I n, .slice A l.length cap, .slice B on.length cap2]⟩]) → Q 6 #[true, true, true, true, true, true, true, true, true, true, true, true, false, false, false, false, false, false] (upd (upd (upd e0 17 (.slice (some ⟨g17, 0, none⟩) (n) (n))) 21 (.slice (some ⟨g21, 0, none⟩) (n) (n))) 25 (.slice (some ⟨g25, 0, none⟩) (n) (n))) w := by
   intro g17 g21 g25 w H; rw [hQ]
   refine Y.A [12, 13, 14] rfl ⟨⟨_, rfl, ?_⟩, ⟨_, rfl, ?_⟩, ⟨_, rfl, ?_⟩, trivial⟩
   ·refine Y.al H rfl rfl ?_
    clear H; intro g8 w H
    refine Y.z <| ⟨H.reidx [4, 5] (by decide) rfl, ?_⟩
    rw [← hQ]
    exact qcast (by kernel_rfl) (s111100000 g17 g21 g25 g8 w (H.reidx [1, 2, 3, 0, 4, 5] (by decide) rfl))
   ·refine Y.al H rfl rfl ?_
    clear H; intro g9 w H
    refine Y.z <| ⟨H.reidx [4, 5] (by decide) rfl, ?_⟩
    rw [← hQ]
    exact qcast (by kernel_rfl) (s111010000 g17 g21 g25 g9 w (H.reidx [1, 2, 3, 0, 4, 5] (by decide) rfl))
   ·refine Y.al H rfl rfl ?_
    clear H; intro g10 w H
    refine Y.z <| ⟨H.reidx [4, 5] (by decide) rfl, ?_⟩
    rw [← hQ]
    exact qcast (by kernel_rfl) (s111001000 g17 g21 g25 g10 w (H.reidx [1, 2, 3, 0, 4, 5] (by decide) rfl))
  have s110100000 : ∀ (g17 g21 g8 : Nat) (w : World), SH w0 [] w ([⟨g17, 132, mkL n (stepCells default)⟩, ⟨g21, 3, mkL n [I 0]⟩, ⟨g8, 128, [.slice none 0 0]⟩] ++ [⟨g5, 30, [.slice Ap pots.length capp]⟩, ⟨g3, 127, [I n, .slice A l.length cap, .slice B on.length cap2]⟩]) → Q 6 #[true, true, true, true, true, true, true, true, true, true, true, false, true, false, false, false, false, false] (upd (upd (upd e0 17 (.slice (some ⟨g17, 0, none⟩) (n) (n))) 21 (.slice (some ⟨g21, 0, none⟩) (n) (n))) 8 (.pointer (some ⟨g8, 0, none⟩))) w := by
   intro g17 g21 g8 w H; rw [hQ]
   refine Y.A [11, 13, 14] rfl ⟨⟨_, rfl, ?_⟩, ⟨_, rfl, ?_⟩, ⟨_, rfl, ?_⟩, trivial⟩
   ·refine Y.mk H (sl_run rfl) ?_
    clear H; intro g25 w H
    refine Y.z <| ⟨H.reidx [4, 5] (by decide) rfl, ?_⟩
    rw [← hQ]
    rw [upd_comm (a := 8) (b := 25) rfl]
    exact qcast (by kernel_rfl) (s111100000 g17 g21 g25 g8 w (H.reidx [1, 2, 0, 3, 4, 5] (by decide) rfl))
   ·refine Y.al H rfl rfl ?_
    clear H; intro g9 w H
    refine Y.z <| ⟨H.reidx [4, 5] (by decide) rfl, ?_⟩
    rw [← hQ]
    exact qcast (by kernel_rfl) (s110110000 g17 g21 g8 g9 w (H.reidx [1, 2, 3, 0, 4, 5] (by decide) rfl))
   ·refine Y.al H rfl rfl ?_
    clear H; intro g10 w H
    refine Y.z <| ⟨H.reidx [4, 5] (by decide) rfl, ?_⟩
    rw [← hQ]
    exact qcast (by kernel_rfl) (s110101000 g17 g21 g8 g10 w (H.reidx [1, 2, 3, 0, 4, 5] (by decide) rfl))
  have s110010000 : ∀ (g17 g21 g9 : Nat) (w : World), SH w0 [] w ([⟨g17, 132, mkL n (stepCells default)⟩, ⟨g21, 3, mkL n [I 0]⟩, ⟨g9, 30, [.slice none 0 0]⟩] ++ [⟨g5, 30, [.slice Ap pots.length capp]⟩, ⟨g3, 127, [I n, .slice A l.length cap, .slice B on.length cap2]⟩]) → Q 6 #[true, true, true, true, true, true, true, true, true, true, true, false, false, true, false, false, false, false] (upd (upd (upd e0 17 (.slice (some ⟨g17, 0, none⟩) (n) (n))) 21 (.slice (some ⟨g21, 0, none⟩) (n) (n))) 9 (.pointer (some ⟨g9, 0, none⟩))) w := by
   intro g17 g21 g9 w H; rw [hQ]
   refine Y.A [11, 12, 14] rfl ⟨⟨_, rfl, ?_⟩, ⟨_, rfl, ?_⟩, ⟨_, rfl, ?_⟩, trivial⟩
   ·refine Y.mk H (sl_run rfl) ?_
    clear H; intro g25 w H
    refine Y.z <| ⟨H.reidx [4, 5] (by decide) rfl, ?_⟩
    rw [← hQ]
    rw [upd_comm (a := 9) (b := 25) rfl]
    exact qcast (by kernel_rfl) (s111010000 g17 g21 g25 g9 w (H.reidx [1, 2, 0, 3, 4, 5] (by decide) rfl))
   ·refine Y.al H rfl rfl ?_
    clear H; intro g8 w H
    refine Y.z <| ⟨H.reidx [4, 5] (by decide) rfl, ?_⟩
    rw [← hQ]
    rw [upd_comm (a := 9) (b := 8) rfl]
    exact qcast (by kernel_rfl) (s110110000 g17 g21 g8 g9 w (H.reidx [1, 2, 0, 3, 4, 5] (by decide) rfl))
   ·refine Y.al H rfl rfl ?_
    clear H; intro g10 w H
    refine Y.z <| ⟨H.reidx [4, 5] (by decide) rfl, ?_⟩
    rw [← hQ]
    exact qcast (by kernel_rfl) (s110011000 g17 g21 g9 g10 w (H.reidx [1, 2, 3, 0, 4, 5] (by decide) rfl))
  have s110001000 : ∀ (g17 g21 g10 : Nat) (w : World), SH w0 [] w ([⟨g17, 132, mkL n (stepCells default)⟩, ⟨g21, 3, mkL n [I 0]⟩, ⟨g10, 137, [.slice none 0 0]⟩] ++ [⟨g5, 30, [.slice Ap pots.length capp]⟩, ⟨g3, 127, [I n, .slice A l.length cap, .slice B on.length cap2]⟩]) → Q 6 #[true, true, true, true, true, true, true, true, true, true, true, false, false, false, true, false, false, false] (upd (upd (upd e0 17 (.slice (some ⟨g17, 0, none⟩) (n) (n))) 21 (.slice (some ⟨g21, 0, none⟩) (n) (n))) 10 (.pointer (some ⟨g10, 0, none⟩))) w := by
   intro g17 g21 g10 w H; rw [hQ]
   refine Y.A [11, 12, 13] rfl ⟨⟨_, rfl, ?_⟩, ⟨_, rfl, ?_⟩, ⟨_, rfl, ?_⟩, trivial⟩
   ·refine Y.mk H (sl_run rfl) ?_
    clear H; intro g25 w H
    refine Y.z <| ⟨H.reidx [4, 5] (by decide) rfl, ?_⟩
    rw [← hQ]
    rw [upd_comm (a := 10) (b := 25) rfl]
    exact qcast (by kernel_rfl) (s111001000 g17 g21 g25 g10 w (H.reidx [1, 2, 0, 3, 4, 5] (by decide) rfl))
   ·refine Y.al H rfl rfl ?_
    clear H; intro g8 w H
    refine Y.z <| ⟨H.reidx [4, 5] (by decide) rfl, ?_⟩
    rw [← hQ]
    rw [upd_comm (a := 10) (b := 8) rfl]
    exact qcast (by kernel_rfl) (s110101000 g17 g21 g8 g10 w (H.reidx [1, 2, 0, 3, 4, 5] (by decide) rfl))
   ·refine Y.al H rfl rfl ?_
    clear H; intro g9 w H
    refine Y.z <| ⟨H.reidx [4, 5] (by decide) rfl, ?_⟩
    rw [← hQ]
    rw [upd_comm (a := 10) (b := 9) rfl]
    exact qcast (by kernel_rfl) (s110011000 g17 g21 g9 g10 w (H.reidx [1, 2, 0, 3, 4, 5] (by decide) rfl))
  have s101100000 : ∀ (g17 g25 g8 : Nat) (w : World), SH w0 [] w ([⟨g17, 132, mkL n (stepCells default)⟩, ⟨g25, 4, mkL n [Bo false]⟩, ⟨g8, 128, [.slice none 0 0]⟩] ++ [⟨g5, 30, [.slice Ap pots.length capp]⟩, ⟨g3, 127, [I n, .slice A l.length cap, .slice B on.length cap2]⟩]) → Q 6 #[true, true, true, true, true, true, true, false, true, true, true, true, true, false, false, false, false, false] (upd (upd (upd e0 17 (.slice (some ⟨g17, 0, none⟩) (n) (n))) 25 (.slice (some ⟨g25, 0, none⟩) (n) (n))) 8 (.pointer (some ⟨g8, 0, none⟩))) w := by
   intro g17 g25 g8 w H; rw [hQ]
   refine Y.A [7, 13, 14] rfl ⟨⟨_, rfl, ?_⟩, ⟨_, rfl, ?_⟩, ⟨_, rfl, ?_⟩, trivial⟩
   ·refine Y.mk H (sl_run rfl) ?_
    clear H; intro g21 w H
    refine Y.z <| ⟨H.reidx [4, 5] (by decide) rfl, ?_⟩
    rw [← hQ]
    rw [upd_comm (a := 8) (b := 21) rfl]
    rw [upd_comm (a := 25) (b := 21) rfl]
    exact qcast (by kernel_rfl) (s111100000 g17 g21 g25 g8 w (H.reidx [1, 0, 2, 3, 4, 5] (by decide) rfl))
   ·refine Y.al H rfl rfl ?_
    clear H; intro g9 w H
    refine Y.z <| ⟨H.reidx [4, 5] (by decide) rfl, ?_⟩
    rw [← hQ]
    exact qcast (by kernel_rfl) (s101110000 g17 g25 g8 g9 w (H.reidx [1, 2, 3, 0, 4, 5] (by decide) rfl))
   ·refine Y.al H rfl rfl ?_
    clear H; intro g10 w H
    refine Y.z <| ⟨H.reidx [4, 5] (by decide) rfl, ?_⟩
    rw [← hQ]
    exact qcast (by kernel_rfl) (s101101000 g17 g25 g8 g10 w (H.reidx [1, 2, 3, 0, 4, 5] (by decide) rfl))
  have s101010000 : ∀ (g17 g25 g9 : Nat) (w : World), SH w0 [] w ([⟨g17, 132, mkL n (stepCells default)⟩, ⟨g25, 4, mkL n [Bo false]⟩, ⟨g9, 30, [.slice none 0 0]⟩] ++ [⟨g5, 30, [.slice Ap pots.length capp]⟩, ⟨g3, 127, [I n, .slice A l.length cap, .slice B on.length cap2]⟩]) → Q 6 #[true, true, true, true, true, true, true, false, true, true, true, true, false, true, false, false, false, false] (upd (upd (upd e0 17 (.slice (some ⟨g17, 0, none⟩) (n) (n))) 25 (.slice (some ⟨g25, 0, none⟩) (n) (n))) 9 (.pointer (some ⟨g9, 0, none⟩))) w := by
   intro g17 g25 g9 w H; rw [hQ]
   refine Y.A [7, 12, 14] rfl ⟨⟨_, rfl, ?_⟩, ⟨_, rfl, ?_⟩, ⟨_, rfl, ?_⟩, trivial⟩
   ·refine Y.mk H (sl_run rfl) ?_
    clear H; intro g21 w H
    refine Y.z <| ⟨H.reidx [4, 5] (by decide) rfl, ?_⟩
    rw [← hQ]
    rw [upd_comm (a := 9) (b := 21) rfl]
    rw [upd_comm (a := 25) (b := 21) rfl]
    exact qcast (by kernel_rfl) (s111010000 g17 g21 g25 g9 w (H.reidx [1, 0, 2, 3, 4, 5] (by decide) rfl))
   ·refine Y.al H rfl rfl ?_
    clear H; intro g8 w H
    refine Y.z <| ⟨H.reidx [4, 5] (by decide) rfl, ?_⟩
    rw [← hQ]
    rw [upd_comm (a := 9) (b := 8) rfl]
    exact qcast (by kernel_rfl) (s101110000 g17 g25 g8 g9 w (H.reidx [1, 2, 0, 3, 4, 5] (by decide) rfl))
   ·refine Y.al H rfl rfl ?_
    clear H; intro g10 w H
    refine Y.z <| ⟨H.reidx [4, 5] (by decide) rfl, ?_⟩
    rw [← hQ]
    exact qcast (by kernel_rfl) (s101011000 g17 g25 g9 g10 w (H.reidx [1, 2, 3, 0, 4, 5] (by decide) rfl))
  have s101001000 : ∀ (g17 g25 g10 : Nat) (w : World), SH w0 [] w ([⟨g17, 132, mkL n (stepCells default)⟩, ⟨g25, 4, mkL n [Bo false]⟩, ⟨g10, 137, [.slice none 0 0]⟩] ++ [⟨g5, 30, [.slice Ap pots.length capp]⟩, ⟨g3, 127, [I n, .slice A l.length cap, .slice B on.length cap2]⟩]) → Q 6 #[true, true, true, true, true, true, true, false, true, true, true, true, false, false, true, false, false, false] (upd (upd (upd e0 17 (.slice (some ⟨g17, 0, none⟩) (n) (n))) 25 (.slice (some ⟨g25, 0, none⟩) (n) (n))) 10 (.pointer (some ⟨g10, 0, none⟩))) w := by
   intro g17 g25 g10 w H; rw [hQ]
   refine Y.A [7, 12, 13] rfl ⟨⟨_, rfl, ?_⟩, ⟨_, rfl, ?_⟩, ⟨_, rfl, ?_⟩, trivial⟩
   ·refine Y.mk H (sl_run rfl) ?_
    clear H; intro g21 w H
    refine Y.z <| ⟨H.reidx [4, 5] (by decide) rfl, ?_⟩
    rw [← hQ]
    rw [upd_comm (a := 10) (b := 21) rfl]
    rw [upd_comm (a := 25) (b := 21) rfl]
    exact qcast (by kernel_rfl) (s111001000 g17 g21 g25 g10 w (H.reidx [1, 0, 2, 3, 4, 5] (by decide) rfl))
   ·refine Y.al H rfl rfl ?_
    clear H; intro g8 w H
    refine Y.z <| ⟨H.reidx [4, 5] (by decide) rfl, ?_⟩
    rw [← hQ]
    rw [upd_comm (a := 10) (b := 8) rfl]
    exact qcast (by kernel_rfl) (s101101000 g17 g25 g8 g10 w (H.reidx [1, 2, 0, 3, 4, 5] (by decide) rfl))
   ·refine Y.al H rfl rfl ?_
    clear H; intro g9 w H
    refine Y.z <| ⟨H.reidx [4, 5] (by decide) rfl, ?_⟩
    rw [← hQ]
    rw [upd_comm (a := 10) (b := 9) rfl]
    exact qcast (by kernel_rfl) (s101011000 g17 g25 g9 g10 w (H.reidx [1, 2, 0, 3, 4, 5] (by decide) rfl))
  have s100110000 : ∀ (g17 g8 g9 : Nat) (w : World), SH w0 [] w ([⟨g17, 132, mkL n (stepCells default)⟩, ⟨g8, 128, [.slice none 0 0]⟩, ⟨g9, 30, [.slice none 0 0]⟩] ++ [⟨g5, 30, [.slice Ap pots.length capp]⟩, ⟨g3, 127, [I n, .slice A l.length cap, .slice B on.length cap2]⟩]) → Q 6 #[true, true, true, true, true, true, true, false, true, true, true, false, true, true, false, false, false, false] (upd (upd (upd e0 17 (.slice (some ⟨g17, 0, none⟩) (n) (n))) 8 (.pointer (some ⟨g8, 0, none⟩))) 9 (.pointer (some ⟨g9, 0, none⟩))) w := by
   intro g17 g8 g9 w H; rw [hQ]
   refine Y.A [7, 11, 14] rfl ⟨⟨_, rfl, ?_⟩, ⟨_, rfl, ?_⟩, ⟨_, rfl, ?_⟩, trivial⟩
   ·refine Y.mk H (sl_run rfl) ?_
    clear H; intro g21 w H
    refine Y.z <| ⟨H.reidx [4, 5] (by decide) rfl, ?_⟩
    rw [← hQ]
    rw [upd_comm (a := 9) (b := 21) rfl]
    rw [upd_comm (a := 8) (b := 21) rfl]
    exact qcast (by kernel_rfl) (s110110000 g17 g21 g8 g9 w (H.reidx [1, 0, 2, 3, 4, 5] (by decide) rfl))
   ·refine Y.mk H (sl_run rfl) ?_
    clear H; intro g25 w H
    refine Y.z <| ⟨H.reidx [4, 5] (by decide) rfl, ?_⟩
    rw [← hQ]
    rw [upd_comm (a := 9) (b := 25) rfl]
    rw [upd_comm (a := 8) (b := 25) rfl]
    exact qcast (by kernel_rfl) (s101110000 g17 g25 g8 g9 w (H.reidx [1, 0, 2, 3, 4, 5] (by decide) rfl))
   ·refine Y.al H rfl rfl ?_
    clear H; intro g10 w H
    refine Y.z <| ⟨H.reidx [4, 5] (by decide) rfl, ?_⟩
    rw [← hQ]
    exact qcast (by kernel_rfl) (s100111000 g17 g8 g9 g10 w (H.reidx [1, 2, 3, 0, 4, 5] (by decide) rfl))
  have s100101000 : ∀ (g17 g8 g10 : Nat) (w : World), SH w0 [] w ([⟨g17, 132, mkL n (stepCells default)⟩, ⟨g8, 128, [.slice none 0 0]⟩, ⟨g10, 137, [.slice none 0 0]⟩] ++ [⟨g5, 30, [.slice Ap pots.length capp]⟩, ⟨g3, 127, [I n, .slice A l.length cap, .slice B on.length cap2]⟩]) → Q 6 #[true, true, true, true, true, true, true, false, true, true, true, false, true, false, true, false, false, false] (upd (upd (upd e0 17 (.slice (some ⟨g17, 0, none⟩) (n) (n))) 8 (.pointer (some ⟨g8, 0, none⟩))) 10 (.pointer (some ⟨g10, 0, none⟩))) w := by
   intro g17 g8 g10 w H; rw [hQ]
   refine Y.A [7, 11, 13] rfl ⟨⟨_, rfl, ?_⟩, ⟨_, rfl, ?_⟩, ⟨_, rfl, ?_⟩, trivial⟩
   ·refine Y.mk H (sl_run rfl) ?_
    clear H; intro g21 w H
    refine Y.z <| ⟨H.reidx [4, 5] (by decide) rfl, ?_⟩
    rw [← hQ]
    rw [upd_comm (a := 10) (b := 21) rfl]
    rw [upd_comm (a := 8) (b := 21) rfl]
    exact qcast (by kernel_rfl) (s110101000 g17 g21 g8 g10 w (H.reidx [1, 0, 2, 3, 4, 5] (by decide) rfl))
   ·refine Y.mk H (sl_run rfl) ?_
    clear H; intro g25 w H
    refine Y.z <| ⟨H.reidx [4, 5] (by decide) rfl, ?_⟩
    rw [← hQ]
    rw [upd_comm (a := 10) (b := 25) rfl]
    rw [upd_comm (a := 8) (b := 25) rfl]
    exact qcast (by kernel_rfl) (s101101000 g17 g25 g8 g10 w (H.reidx [1, 0, 2, 3, 4, 5] (by decide) rfl))
   ·refine Y.al H rfl rfl ?_
    clear H; intro g9 w H
    refine Y.z <| ⟨H.reidx [4, 5] (by decide) rfl, ?_⟩
    rw [← hQ]
    rw [upd_comm (a := 10) (b := 9) rfl]
    exact qcast (by kernel_rfl) (s100111000 g17 g8 g9 g10 w (H.reidx [1, 2, 0, 3, 4, 5] (by decide) rfl))
  have s100011000 : ∀ (g17 g9 g10 : Nat) (w : World), SH w0 [] w ([⟨g17, 132, mkL n (stepCells default)⟩, ⟨g9, 30, [.slice none 0 0]⟩, ⟨g10, 137, [.slice none 0 0]⟩] ++ [⟨g5, 30, [.slice Ap pots.length capp]⟩, ⟨g3, 127, [I n, .slice A l.length cap, .slice B on.length cap2]⟩]) → Q 6 #[true, true, true, true, true, true, true, false, true, true, true, false, false, true, true, false, false, false] (upd (upd (upd e0 17 (.slice (some ⟨g17, 0, none⟩) (n) (n))) 9 (.pointer (some ⟨g9, 0, none⟩))) 10 (.pointer (some ⟨g10, 0, none⟩))) w := by
   intro g17 g9 g10 w H; rw [hQ]
   refine Y.A [7, 11, 12] rfl ⟨⟨_, rfl, ?_⟩, ⟨_, rfl, ?_⟩, ⟨_, rfl, ?_⟩, trivial⟩
   ·refine Y.mk H (sl_run rfl) ?_
    clear H; intro g21 w H
    refine Y.z <| ⟨H.reidx [4, 5] (by decide) rfl, ?_⟩
    rw [← hQ]
    rw [upd_comm (a := 10) (b := 21) rfl]
    rw [upd_comm (a := 9) (b := 21) rfl]
    exact qcast (by kernel_rfl) (s110011000 g17 g21 g9 g10 w (H.reidx [1, 0, 2, 3, 4, 5] (by decide) rfl))
   ·refine Y.mk H (sl_run rfl) ?_
    clear H; intro g25 w H
    refine Y.z <| ⟨H.reidx [4, 5] (by decide) rfl, ?_⟩
    rw [← hQ]
    rw [upd_comm (a := 10) (b := 25) rfl]
    rw [upd_comm (a := 9) (b := 25) rfl]
    exact qcast (by kernel_rfl) (s101011000 g17 g25 g9 g10 w (H.reidx [1, 0, 2, 3, 4, 5] (by decide) rfl))
   ·refine Y.al H rfl rfl ?_
    clear H; intro g8 w H
    refine Y.z <| ⟨H.reidx [4, 5] (by decide) rfl, ?_⟩
    rw [← hQ]
    rw [upd_comm (a := 10) (b := 8) rfl]
    rw [upd_comm (a := 9) (b := 8) rfl]
    exact qcast (by kernel_rfl) (s100111000 g17 g8 g9 g10 w (H.reidx [1, 0, 2, 3, 4, 5] (by decide) rfl))
  have s011100000 : ∀ (g21 g25 g8 : Nat) (w : World), SH w0 [] w ([⟨g21, 3, mkL n [I 0]⟩, ⟨g25, 4, mkL n [Bo false]⟩, ⟨g8, 128, [.slice none 0 0]⟩] ++ [⟨g5, 30, [.slice Ap pots.length capp]⟩, ⟨g3, 127, [I n, .slice A l.length cap, .slice B on.length cap2]⟩]) → Q 6 #[true, true, true, false, true, true, true, true, true, true, true, true, true, false, false, false, false, false] (upd (upd (upd e0 21 (.slice (some ⟨g21, 0, none⟩) (n) (n))) 25 (.slice (some ⟨g25, 0, none⟩) (n) (n))) 8 (.pointer (some ⟨g8, 0, none⟩))) w := by
   intro g21 g25 g8 w H; rw [hQ]
   refine Y.A [3, 13, 14] rfl ⟨⟨_, rfl, ?_⟩, ⟨_, rfl, ?_⟩, ⟨_, rfl, ?_⟩, trivial⟩
   ·refine Y.mk H (sl_run rfl) ?_
    clear H; intro g17 w H
    refine Y.z <| ⟨H.reidx [4, 5] (by decide) rfl, ?_⟩
    rw [← hQ]
    rw [upd_comm (a := 8) (b := 17) rfl]
    rw [upd_comm (a := 25) (b := 17) rfl]
    rw [upd_comm (a := 21) (b := 17) rfl]
    exact qcast (by kernel_rfl) (s111100000 g17 g21 g25 g8 w (H.reidx [0, 1, 2, 3, 4, 5] (by decide) rfl))
   ·refine Y.al H rfl rfl ?_
    clear H; intro g9 w H
    refine Y.z <| ⟨H.reidx [4, 5] (by decide) rfl, ?_⟩
    rw [← hQ]
    exact qcast (by kernel_rfl) (s011110000 g21 g25 g8 g9 w (H.reidx [1, 2, 3, 0, 4, 5] (by decide) rfl))
   ·refine Y.al H rfl rfl ?_
    clear H; intro g10 w H
    refine Y.z <| ⟨H.reidx [4, 5] (by decide) rfl, ?_⟩
    rw [← hQ]
    exact qcast (by kernel_rfl) (s011101000 g21 g25 g8 g10 w (H.reidx [1, 2, 3, 0, 4, 5] (by decide) rfl))
  have s011010000 : ∀ (g21 g25 g9 : Nat) (w : World), SH w0 [] w ([⟨g21, 3, mkL n [I 0]⟩, ⟨g25, 4, mkL n [Bo false]⟩, ⟨g9, 30, [.slice none 0 0]⟩] ++ [⟨g5, 30, [.slice Ap pots.length capp]⟩, ⟨g3, 127, [I n, .slice A l.length cap, .slice B on.length cap2]⟩]) → Q 6 #[true, true, true, false, true, true, true, true, true, true, true, true, false, true, false, false, false, false] (upd (upd (upd e0 21 (.slice (some ⟨g21, 0, none⟩) (n) (n))) 25 (.slice (some ⟨g25, 0, none⟩) (n) (n))) 9 (.pointer (some ⟨g9, 0, none⟩))) w := by
   intro g21 g25 g9 w H; rw [hQ]
   refine Y.A [3, 12, 14] rfl ⟨⟨_, rfl, ?_⟩, ⟨_, rfl, ?_⟩, ⟨_, rfl, ?_⟩, trivial⟩
   ·refine Y.mk H (sl_run rfl) ?_
    clear H; intro g17 w H
    refine Y.z <| ⟨H.reidx [4, 5] (by decide) rfl, ?_⟩
    rw [← hQ]
    rw [upd_comm (a := 9) (b := 17) rfl]
    rw [upd_comm (a := 25) (b := 17) rfl]
    rw [upd_comm (a := 21) (b := 17) rfl]
    exact qcast (by kernel_rfl) (s111010000 g17 g21 g25 g9 w (H.reidx [0, 1, 2, 3, 4, 5] (by decide) rfl))
   ·refine Y.al H rfl rfl ?_
    clear H; intro g8 w H
    refine Y.z <| ⟨H.reidx [4, 5] (by decide) rfl, ?_⟩
    rw [← hQ]
    rw [upd_comm (a := 9) (b := 8) rfl]
    exact qcast (by kernel_rfl) (s011110000 g21 g25 g8 g9 w (H.reidx [1, 2, 0, 3, 4, 5] (by decide) rfl))
   ·refine Y.al H rfl rfl ?_
    clear H; intro g10 w H
    refine Y.z <| ⟨H.reidx [4, 5] (by decide) rfl, ?_⟩
    rw [← hQ]
    exact qcast (by kernel_rfl) (s011011000 g21 g25 g9 g10 w (H.reidx [1, 2, 3, 0, 4, 5] (by decide) rfl))
  have s011001000 : ∀ (g21 g25 g10 : Nat) (w : World), SH w0 [] w ([⟨g21, 3, mkL n [I 0]⟩, ⟨g25, 4, mkL n [Bo false]⟩, ⟨g10, 137, [.slice none 0 0]⟩] ++ [⟨g5, 30, [.slice Ap pots.length capp]⟩, ⟨g3, 127, [I n, .slice A l.length cap, .slice B on.length cap2]⟩]) → Q 6 #[true, true, true, false, true, true, true, true, true, true, true, true, false, false, true, false, false, false] (upd (upd (upd e0 21 (.slice (some ⟨g21, 0, none⟩) (n) (n))) 25 (.slice (some ⟨g25, 0, none⟩) (n) (n))) 10 (.pointer (some ⟨g10, 0, none⟩))) w := by
   intro g21 g25 g10 w H; rw [hQ]
   refine Y.A [3, 12, 13] rfl ⟨⟨_, rfl, ?_⟩, ⟨_, rfl, ?_⟩, ⟨_, rfl, ?_⟩, trivial⟩
   ·refine Y.mk H (sl_run rfl) ?_
    clear H; intro g17 w H
    refine Y.z <| ⟨H.reidx [4, 5] (by decide) rfl, ?_⟩
    rw [← hQ]
    rw [upd_comm (a := 10) (b := 17) rfl]
    rw [upd_comm (a := 25) (b := 17) rfl]
    rw [upd_comm (a := 21) (b := 17) rfl]
    exact qcast (by kernel_rfl) (s111001000 g17 g21 g25 g10 w (H.reidx [0, 1, 2, 3, 4, 5] (by decide) rfl))
   ·refine Y.al H rfl rfl ?_
    clear H; intro g8 w H
    refine Y.z <| ⟨H.reidx [4, 5] (by decide) rfl, ?_⟩
    rw [← hQ]
    rw [upd_comm (a := 10) (b := 8) rfl]
    exact qcast (by kernel_rfl) (s011101000 g21 g25 g8 g10 w (H.reidx [1, 2, 0, 3, 4, 5] (by decide) rfl))
   ·refine Y.al H rfl rfl ?_
    clear H; intro g9 w H
    refine Y.z <| ⟨H.reidx [4, 5] (by decide) rfl, ?_⟩
    rw [← hQ]
    rw [upd_comm (a := 10) (b := 9) rfl]
    exact qcast (by kernel_rfl) (s011011000 g21 g25 g9 g10 w (H.reidx [1, 2, 0, 3, 4, 5] (by decide) rfl))
  have s010110000 : ∀ (g21 g8 g9 : Nat) (w : World), SH w0 [] w ([⟨g21, 3, mkL n [I 0]⟩, ⟨g8, 128, [.slice none 0 0]⟩, ⟨g9, 30, [.slice none 0 0]⟩] ++ [⟨g5, 30, [.slice Ap pots.length capp]⟩, ⟨g3, 127, [I n, .slice A l.length cap, .slice B on.length cap2]⟩]) → Q 6 #[true, true, true, false, true, true, true, true, true, true, true, false, true, true, false, false, false, false] (upd (upd (upd e0 21 (.slice (some ⟨g21, 0, none⟩) (n) (n))) 8 (.pointer (some ⟨g8, 0, none⟩))) 9 (.pointer (some ⟨g9, 0, none⟩))) w := by
   intro g21 g8 g9 w H; rw [hQ]
   refine Y.A [3, 11, 14] rfl ⟨⟨_, rfl, ?_⟩, ⟨_, rfl, ?_⟩, ⟨_, rfl, ?_⟩, trivial⟩
   ·refine Y.mk H (sl_run rfl) ?_
    clear H; intro g17 w H
    refine Y.z <| ⟨H.reidx [4, 5] (by decide) rfl, ?_⟩
    rw [← hQ]
    rw [upd_comm (a := 9) (b := 17) rfl]
    rw [upd_comm (a := 8) (b := 17) rfl]
    rw [upd_comm (a := 21) (b := 17) rfl]
    exact qcast (by kernel_rfl) (s110110000 g17 g21 g8 g9 w (H.reidx [0, 1, 2, 3, 4, 5] (by decide) rfl))
   ·refine Y.mk H (sl_run rfl) ?_
    clear H; intro g25 w H
    refine Y.z <| ⟨H.reidx [4, 5] (by decide) rfl, ?_⟩
    rw [← hQ]
    rw [upd_comm (a := 9) (b := 25) rfl]
    rw [upd_comm (a := 8) (b := 25) rfl]
    exact qcast (by kernel_rfl) (s011110000 g21 g25 g8 g9 w (H.reidx [1, 0, 2, 3, 4, 5] (by decide) rfl))
   ·refine Y.al H rfl rfl ?_
    clear H; intro g10 w H
    refine Y.z <| ⟨H.reidx [4, 5] (by decide) rfl, ?_⟩
    rw [← hQ]
    exact qcast (by kernel_rfl) (s010111000 g21 g8 g9 g10 w (H.reidx [1, 2, 3, 0, 4, 5] (by decide) rfl))
  have s010101000 : ∀ (g21 g8 g10 : Nat) (w : World), SH w0 [] w ([⟨g21, 3, mkL n [I 0]⟩, ⟨g8, 128, [.slice none 0 0]⟩, ⟨g10, 137, [.slice none 0 0]⟩] ++ [⟨g5, 30, [.slice Ap pots.length capp]⟩, ⟨g3, 127, [I n, .slice A l.length cap, .slice B on.length cap2]⟩]) → Q 6 #[true, true, true, false, true, true, true, true, true, true, true, false, true, false, true, false, false, false] (upd (upd (upd e0 21 (.slice (some ⟨g21, 0, none⟩) (n) (n))) 8 (.pointer (some ⟨g8, 0, none⟩))) 10 (.pointer (some ⟨g10, 0, none⟩))) w := by
   intro g21 g8 g10 w H; rw [hQ]
   refine Y.A [3, 11, 13] rfl ⟨⟨_, rfl, ?_⟩, ⟨_, rfl, ?_⟩, ⟨_, rfl, ?_⟩, trivial⟩
   ·refine Y.mk H (sl_run rfl) ?_
    clear H; intro g17 w H
    refine Y.z <| ⟨H.reidx [4, 5] (by decide) rfl, ?_⟩
    rw [← hQ]
    rw [upd_comm (a := 10) (b := 17) rfl]
    rw [upd_comm (a := 8) (b := 17) rfl]
    rw [upd_comm (a := 21) (b := 17) rfl]
    exact qcast (by kernel_rfl) (s110101000 g17 g21 g8 g10 w (H.reidx [0, 1, 2, 3, 4, 5] (by decide) rfl))
   ·refine Y.mk H (sl_run rfl) ?_
    clear H; intro g25 w H
    refine Y.z <| ⟨H.reidx [4, 5] (by decide) rfl, ?_⟩
    rw [← hQ]
    rw [upd_comm (a := 10) (b := 25) rfl]
    rw [upd_comm (a := 8) (b := 25) rfl]
    exact qcast (by kernel_rfl) (s011101000 g21 g25 g8 g10 w (H.reidx [1, 0, 2, 3, 4, 5] (by decide) rfl))
   ·refine Y.al H rfl rfl ?_
    clear H; intro g9 w H
    refine Y.z <| ⟨H.reidx [4, 5] (by decide) rfl, ?_⟩
    rw [← hQ]
    rw [upd_comm (a := 10) (b := 9) rfl]
    exact qcast (by kernel_rfl) (s010111000 g21 g8 g9 g10 w (H.reidx [1, 2, 0, 3, 4, 5] (by decide) rfl))
  have s010011000 : ∀ (g21 g9 g10 : Nat) (w : World), SH w0 [] w ([⟨g21, 3, mkL n [I 0]⟩, ⟨g9, 30, [.slice none 0 0]⟩, ⟨g10, 137, [.slice none 0 0]⟩] ++ [⟨g5, 30, [.slice Ap pots.length capp]⟩, ⟨g3, 127, [I n, .slice A l.length cap, .slice B on.length cap2]⟩]) → Q 6 #[true, true, true, false, true, true, true, true, true, true, true, false, false, true, true, false, false, false] (upd (upd (upd e0 21 (.slice (some ⟨g21, 0, none⟩) (n) (n))) 9 (.pointer (some ⟨g9, 0, none⟩))) 10 (.pointer (some ⟨g10, 0, none⟩))) w := by
   intro g21 g9 g10 w H; rw [hQ]
   refine Y.A [3, 11, 12] rfl ⟨⟨_, rfl, ?_⟩, ⟨_, rfl, ?_⟩, ⟨_, rfl, ?_⟩, trivial⟩
   ·refine Y.mk H (sl_run rfl) ?_
    clear H; intro g17 w H
    refine Y.z <| ⟨H.reidx [4, 5] (by decide) rfl, ?_⟩
    rw [← hQ]
    rw [upd_comm (a := 10) (b := 17) rfl]
    rw [upd_comm (a := 9) (b := 17) rfl]
    rw [upd_comm (a := 21) (b := 17) rfl]
    exact qcast (by kernel_rfl) (s110011000 g17 g21 g9 g10 w (H.reidx [0, 1, 2, 3, 4, 5] (by decide) rfl))
   ·refine Y.mk H (sl_run rfl) ?_
    clear H; intro g25 w H
    refine Y.z <| ⟨H.reidx [4, 5] (by decide) rfl, ?_⟩
    rw [← hQ]
    rw [upd_comm (a := 10) (b := 25) rfl]
    rw [upd_comm (a := 9) (b := 25) rfl]
    exact qcast (by kernel_rfl) (s011011000 g21 g25 g9 g10 w (H.reidx [1, 0, 2, 3, 4, 5] (by decide) rfl))
   ·refine Y.al H rfl rfl ?_
    clear H; intro g8 w H
    refine Y.z <| ⟨H.reidx [4, 5] (by decide) rfl, ?_⟩
    rw [← hQ]
    rw [upd_comm (a := 10) (b := 8) rfl]
    rw [upd_comm (a := 9) (b := 8) rfl]
    exact qcast (by kernel_rfl) (s010111000 g21 g8 g9 g10 w (H.reidx [1, 0, 2, 3, 4, 5] (by decide) rfl))
  have s001110000 : ∀ (g25 g8 g9 : Nat) (w : World), SH w0 [] w ([⟨g25, 4, mkL n [Bo false]⟩, ⟨g8, 128, [.slice none 0 0]⟩, ⟨g9, 30, [.slice none 0 0]⟩] ++ [⟨g5, 30, [.slice Ap pots.length capp]⟩, ⟨g3, 127, [I n, .slice A l.length cap, .slice B on.length cap2]⟩]) → Q 6 #[true, true, true, false, true, true, true, false, true, true, true, true, true, true, false, false, false, false] (upd (upd (upd e0 25 (.slice (some ⟨g25, 0, none⟩) (n) (n))) 8 (.pointer (some ⟨g8, 0, none⟩))) 9 (.pointer (some ⟨g9, 0, none⟩))) w := by
   intro g25 g8 g9 w H; rw [hQ]
   refine Y.A [3, 7, 14] rfl ⟨⟨_, rfl, ?_⟩, ⟨_, rfl, ?_⟩, ⟨_, rfl, ?_⟩, trivial⟩
   ·refine Y.mk H (sl_run rfl) ?_
    clear H; intro g17 w H
    refine Y.z <| ⟨H.reidx [4, 5] (by decide) rfl, ?_⟩
    rw [← hQ]
    rw [upd_comm (a := 9) (b := 17) rfl]
    rw [upd_comm (a := 8) (b := 17) rfl]
    rw [upd_comm (a := 25) (b := 17) rfl]
    exact qcast (by kernel_rfl) (s101110000 g17 g25 g8 g9 w (H.reidx [0, 1, 2, 3, 4, 5] (by decide) rfl))
   ·refine Y.mk H (sl_run rfl) ?_
    clear H; intro g21 w H
    refine Y.z <| ⟨H.reidx [4, 5] (by decide) rfl, ?_⟩
    rw [← hQ]
    rw [upd_comm (a := 9) (b := 21) rfl]
    rw [upd_comm (a := 8) (b := 21) rfl]
    rw [upd_comm (a := 25) (b := 21) rfl]
    exact qcast (by kernel_rfl) (s011110000 g21 g25 g8 g9 w (H.reidx [0, 1, 2, 3, 4, 5] (by decide) rfl))
   ·refine Y.al H rfl rfl ?_
    clear H; intro g10 w H
    refine Y.z <| ⟨H.reidx [4, 5] (by decide) rfl, ?_⟩
    rw [← hQ]
    exact qcast (by kernel_rfl) (s001111000 g25 g8 g9 g10 w (H.reidx [1, 2, 3, 0, 4, 5] (by decide) rfl))
  have s001101000 : ∀ (g25 g8 g10 : Nat) (w : World), SH w0 [] w ([⟨g25, 4, mkL n [Bo false]⟩, ⟨g8, 128, [.slice none 0 0]⟩, ⟨g10, 137, [.slice none 0 0]⟩] ++ [⟨g5, 30, [.slice Ap pots.length capp]⟩, ⟨g3, 127, [I n, .slice A l.length cap, .slice B on.length cap2]⟩]) → Q 6 #[true, true, true, false, true, true, true, false, true, true, true, true, true, false, true, false, false, false] (upd (upd (upd e0 25 (.slice (some ⟨g25, 0, none⟩) (n) (n))) 8 (.pointer (some ⟨g8, 0, none⟩))) 10 (.pointer (some ⟨g10, 0, none⟩))) w := by
   intro g25 g8 g10 w H; rw [hQ]
   refine Y.A [3, 7, 13] rfl ⟨⟨_, rfl, ?_⟩, ⟨_, rfl, ?_⟩, ⟨_, rfl, ?_⟩, trivial⟩
   ·refine Y.mk H (sl_run rfl) ?_
    clear H; intro g17 w H
    refine Y.z <| ⟨H.reidx [4, 5] (by decide) rfl, ?_⟩
    rw [← hQ]
    rw [upd_comm (a := 10) (b := 17) rfl]
    rw [upd_comm (a := 8) (b := 17) rfl]
    rw [upd_comm (a := 25) (b := 17) rfl]
    exact qcast (by kernel_rfl) (s101101000 g17 g25 g8 g10 w (H.reidx [0, 1, 2, 3, 4, 5] (by decide) rfl))
   ·refine Y.mk H (sl_run rfl) ?_
    clear H; intro g21 w H
    refine Y.z <| ⟨H.reidx [4, 5] (by decide) rfl, ?_⟩
    rw [← hQ]
    rw [upd_comm (a := 10) (b := 21) rfl]
    rw [upd_comm (a := 8) (b := 21) rfl]
    rw [upd_comm (a := 25) (b := 21) rfl]
    exact qcast (by kernel_rfl) (s011101000 g21 g25 g8 g10 w (H.reidx [0, 1, 2, 3, 4, 5] (by decide) rfl))
   ·refine Y.al H rfl rfl ?_
    clear H; intro g9 w H
    refine Y.z <| ⟨H.reidx [4, 5] (by decide) rfl, ?_⟩
    rw [← hQ]
    rw [upd_comm (a := 10) (b := 9) rfl]
    exact qcast (by kernel_rfl) (s001111000 g25 g8 g9 g10 w (H.reidx [1, 2, 0, 3, 4, 5] (by decide) rfl))
  have s001011000 : ∀ (g25 g9 g10 : Nat) (w : World), SH w0 [] w ([⟨g25, 4, mkL n [Bo false]⟩, ⟨g9, 30, [.slice none 0 0]⟩, ⟨g10, 137, [.slice none 0 0]⟩] ++ [⟨g5, 30, [.slice Ap pots.length capp]⟩, ⟨g3, 127, [I n, .slice A l.length cap, .slice B on.length cap2]⟩]) → Q 6 #[true, true, true, false, true, true, true, false, true, true, true, true, false, true, true, false, false, false] (upd (upd (upd e0 25 (.slice (some ⟨g25, 0, none⟩) (n) (n))) 9 (.pointer (some ⟨g9, 0, none⟩))) 10 (.pointer (some ⟨g10, 0, none⟩))) w := by
   intro g25 g9 g10 w H; rw [hQ]
   refine Y.A [3, 7, 12] rfl ⟨⟨_, rfl, ?_⟩, ⟨_, rfl, ?_⟩, ⟨_, rfl, ?_⟩, trivial⟩
   ·refine Y.mk H (sl_run rfl) ?_
    clear H; intro g17 w H
    refine Y.z <| ⟨H.reidx [4, 5] (by decide) rfl, ?_⟩
    rw [← hQ]
    rw [upd_comm (a := 10) (b := 17) rfl]
    rw [upd_comm (a := 9) (b := 17) rfl]
    rw [upd_comm (a := 25) (b := 17) rfl]
    exact qcast (by kernel_rfl) (s101011000 g17 g25 g9 g10 w (H.reidx [0, 1, 2, 3, 4, 5] (by decide) rfl))
   ·refine Y.mk H (sl_run rfl) ?_
    clear H; intro g21 w H
    refine Y.z <| ⟨H.reidx [4, 5] (by decide) rfl, ?_⟩
    rw [← hQ]
    rw [upd_comm (a := 10) (b := 21) rfl]
    rw [upd_comm (a := 9) (b := 21) rfl]
    rw [upd_comm (a := 25) (b := 21) rfl]
    exact qcast (by kernel_rfl) (s011011000 g21 g25 g9 g10 w (H.reidx [0, 1, 2, 3, 4, 5] (by decide) rfl))
   ·refine Y.al H rfl rfl ?_
    clear H; intro g8 w H
    refine Y.z <| ⟨H.reidx [4, 5] (by decide) rfl, ?_⟩
    rw [← hQ]
    rw [upd_comm (a := 10) (b := 8) rfl]
    rw [upd_comm (a := 9) (b := 8) rfl]
    exact qcast (by kernel_rfl) (s001111000 g25 g8 g9 g10 w (H.reidx [1, 0, 2, 3, 4, 5] (by decide) rfl))
  have s000111000 : ∀ (g8 g9 g10 : Nat) (w : World), SH w0 [] w ([⟨g8, 128, [.slice none 0 0]⟩, ⟨g9, 30, [.slice none 0 0]⟩, ⟨g10, 137, [.slice none 0 0]⟩] ++ [⟨g5, 30, [.slice Ap pots.length capp]⟩, ⟨g3, 127, [I n, .slice A l.length cap, .slice B on.length cap2]⟩]) → Q 6 #[true, true, true, false, true, true, true, false, true, true, true, false, true, true, true, false, false, false] (upd (upd (upd e0 8 (.pointer (some ⟨g8, 0, none⟩))) 9 (.pointer (some ⟨g9, 0, none⟩))) 10 (.pointer (some ⟨g10, 0, none⟩))) w := by
   intro g8 g9 g10 w H; rw [hQ]
   refine Y.A [3, 7, 11] rfl ⟨⟨_, rfl, ?_⟩, ⟨_, rfl, ?_⟩, ⟨_, rfl, ?_⟩, trivial⟩
   ·refine Y.mk H (sl_run rfl) ?_
    clear H; intro g17 w H
    refine Y.z <| ⟨H.reidx [4, 5] (by decide) rfl, ?_⟩
    rw [← hQ]
    rw [upd_comm (a := 10) (b := 17) rfl]
    rw [upd_comm (a := 9) (b := 17) rfl]
    rw [upd_comm (a := 8) (b := 17) rfl]
    exact qcast (by kernel_rfl) (s100111000 g17 g8 g9 g10 w (H.reidx [0, 1, 2, 3, 4, 5] (by decide) rfl))
   ·refine Y.mk H (sl_run rfl) ?_
    clear H; intro g21 w H
    refine Y.z <| ⟨H.reidx [4, 5] (by decide) rfl, ?_⟩
    rw [← hQ]
    rw [upd_comm (a := 10) (b := 21) rfl]
    rw [upd_comm (a := 9) (b := 21) rfl]
    rw [upd_comm (a := 8) (b := 21) rfl]
    exact qcast (by kernel_rfl) (s010111000 g21 g8 g9 g10 w (H.reidx [0, 1, 2, 3, 4, 5] (by decide) rfl))
   ·refine Y.mk H (sl_run rfl) ?_
    clear H; intro g25 w H
    refine Y.z <| ⟨H.reidx [4, 5] (by decide) rfl, ?_⟩
    rw [← hQ]
    rw [upd_comm (a := 10) (b := 25) rfl]
    rw [upd_comm (a := 9) (b := 25) rfl]
    rw [upd_comm (a := 8) (b := 25) rfl]
    exact qcast (by kernel_rfl) (s001111000 g25 g8 g9 g10 w (H.reidx [0, 1, 2, 3, 4, 5] (by decide) rfl))
  clear s111100000 s111010000 s111001000 s110110000 s110101000 s110011000 s101110000 s101101000 s101011000 s100111000 s011110000 s011101000 s011011000 s010111000 s001111000
  have s110000000 : ∀ (g17 g21 : Nat) (w : World), SH w0 [] w ([⟨g17, 132, mkL n (stepCells default)⟩, ⟨g21, 3, mkL n [I 0]⟩] ++ [⟨g5, 30, [.slice Ap pots.length capp]⟩, ⟨g3, 127, [I n, .slice A l.length cap, .slice B on.length cap2]⟩]) → Q 7 #[true, true, true, true, true, true, true, true, true, true, true, false, false, false, false, false, false, false] (upd (upd e0 17 (.slice (some ⟨g17, 0, none⟩) (n) (n))) 21 (.slice (some ⟨g21, 0, none⟩) (n) (n))) w := by
   intro g17 g21 w H; rw [hQ]
   refine Y.A [11, 12, 13, 14] rfl ⟨⟨_, rfl, ?_⟩, ⟨_, rfl, ?_⟩, ⟨_, rfl, ?_⟩, ⟨_, rfl, ?_⟩, trivial⟩
   ·refine Y.mk H (sl_run rfl) ?_
    clear H; intro g25 w H
    refine Y.z <| ⟨H.reidx [3, 4] (by decide) rfl, ?_⟩
    rw [← hQ]
    exact qcast (by kernel_rfl) (s111000000 g17 g21 g25 w (H.reidx [1, 2, 0, 3, 4] (by decide) rfl))
   ·refine Y.al H rfl rfl ?_
    clear H; intro g8 w H
    refine Y.z <| ⟨H.reidx [3, 4] (by decide) rfl, ?_⟩
    rw [← hQ]
    exact qcast (by kernel_rfl) (s110100000 g17 g21 g8 w (H.reidx [1, 2, 0, 3, 4] (by decide) rfl))
   ·refine Y.al H rfl rfl ?_
    clear H; intro g9 w H
    refine Y.z <| ⟨H.reidx [3, 4] (by decide) rfl, ?_⟩
    rw [← hQ]
    exact qcast (by kernel_rfl) (s110010000 g17 g21 g9 w (H.reidx [1, 2, 0, 3, 4] (by decide) rfl))
   ·refine Y.al H rfl rfl ?_
    clear H; intro g10 w H
    refine Y.z <| ⟨H.reidx [3, 4] (by decide) rfl, ?_⟩
    rw [← hQ]
    exact qcast (by kernel_rfl) (s110001000 g17 g21 g10 w (H.reidx [1, 2, 0, 3, 4] (by decide) rfl))
  have s101000000 : ∀ (g17 g25 : Nat) (w : World), SH w0 [] w ([⟨g17, 132, mkL n (stepCells default)⟩, ⟨g25, 4, mkL n [Bo false]⟩] ++ [⟨g5, 30, [.slice Ap pots.length capp]⟩, ⟨g3, 127, [I n, .slice A l.length cap, .slice B on.length cap2]⟩]) → Q 7 #[true, true, true, true, true, true, true, false, true, true, true, true, false, false, false, false, false, false] (upd (upd e0 17 (.slice (some ⟨g17, 0, none⟩) (n) (n))) 25 (.slice (some ⟨g25, 0, none⟩) (n) (n))) w := by
   intro g17 g25 w H; rw [hQ]
   refine Y.A [7, 12, 13, 14] rfl ⟨⟨_, rfl, ?_⟩, ⟨_, rfl, ?_⟩, ⟨_, rfl, ?_⟩, ⟨_, rfl, ?_⟩, trivial⟩
   ·refine Y.mk H (sl_run rfl) ?_
    clear H; intro g21 w H
    refine Y.z <| ⟨H.reidx [3, 4] (by decide) rfl, ?_⟩
    rw [← hQ]
    rw [upd_comm (a := 25) (b := 21) rfl]
    exact qcast (by kernel_rfl) (s111000000 g17 g21 g25 w (H.reidx [1, 0, 2, 3, 4] (by decide) rfl))
   ·refine Y.al H rfl rfl ?_
    clear H; intro g8 w H
    refine Y.z <| ⟨H.reidx [3, 4] (by decide) rfl, ?_⟩
    rw [← hQ]
    exact qcast (by kernel_rfl) (s101100000 g17 g25 g8 w (H.reidx [1, 2, 0, 3, 4] (by decide) rfl))
   ·refine Y.al H rfl rfl ?_
    clear H; intro g9 w H
    refine Y.z <| ⟨H.reidx [3, 4] (by decide) rfl, ?_⟩
    rw [← hQ]
    exact qcast (by kernel_rfl) (s101010000 g17 g25 g9 w (H.reidx [1, 2, 0, 3, 4] (by decide) rfl))
   ·refine Y.al H rfl rfl ?_
    clear H; intro g10 w H
    refine Y.z <| ⟨H.reidx [3, 4] (by decide) rfl, ?_⟩
    rw [← hQ]
    exact qcast (by kernel_rfl) (s101001000 g17 g25 g10 w (H.reidx [1, 2, 0, 3, 4] (by decide) rfl))
  have s100100000 : ∀ (g17 g8 : Nat) (w : World), SH w0 [] w ([⟨g17, 132, mkL n (stepCells default)⟩, ⟨g8, 128, [.slice none 0 0]⟩] ++ [⟨g5, 30, [.slice Ap pots.length capp]⟩, ⟨g3, 127, [I n, .slice A l.length cap, .slice B on.length cap2]⟩]) → Q 7 #[true, true, true, true, true, true, true, false, true, true, true, false, true, false, false, false, false, false] (upd (upd e0 17 (.slice (some ⟨g17, 0, none⟩) (n) (n))) 8 (.pointer (some ⟨g8, 0, none⟩))) w := by
   intro g17 g8 w H; rw [hQ]
   refine Y.A [7, 11, 13, 14] rfl ⟨⟨_, rfl, ?_⟩, ⟨_, rfl, ?_⟩, ⟨_, rfl, ?_⟩, ⟨_, rfl, ?_⟩, trivial⟩
   ·refine Y.mk H (sl_run rfl) ?_
    clear H; intro g21 w H
    refine Y.z <| ⟨H.reidx [3, 4] (by decide) rfl, ?_⟩
    rw [← hQ]
    rw [upd_comm (a := 8) (b := 21) rfl]
    exact qcast (by kernel_rfl) (s110100000 g17 g21 g8 w (H.reidx [1, 0, 2, 3, 4] (by decide) rfl))
   ·refine Y.mk H (sl_run rfl) ?_
    clear H; intro g25 w H
    refine Y.z <| ⟨H.reidx [3, 4] (by decide) rfl, ?_⟩
    rw [← hQ]
    rw [upd_comm (a := 8) (b := 25) rfl]
    exact qcast (by kernel_rfl) (s101100000 g17 g25 g8 w (H.reidx [1, 0, 2, 3, 4] (by decide) rfl))
   ·refine Y.al H rfl rfl ?_
    clear H; intro g9 w H
    refine Y.z <| ⟨H.reidx [3, 4] (by decide) rfl, ?_⟩
    rw [← hQ]
    exact qcast (by kernel_rfl) (s100110000 g17 g8 g9 w (H.reidx [1, 2, 0, 3, 4] (by decide) rfl))
   ·refine Y.al H rfl rfl ?_
    clear H; intro g10 w H
    refine Y.z <| ⟨H.reidx [3, 4] (by decide) rfl, ?_⟩
    rw [← hQ]
    exact qcast (by kernel_rfl) (s100101000 g17 g8 g10 w (H.reidx [1, 2, 0, 3, 4] (by decide) rfl))
  have s100010000 : ∀ (g17 g9 : Nat) (w : World), SH w0 [] w ([⟨g17, 132, mkL n (stepCells default)⟩, ⟨g9, 30, [.slice none 0 0]⟩] ++ [⟨g5, 30, [.slice Ap pots.length capp]⟩, ⟨g3, 127, [I n, .slice A l.length cap, .slice B on.length cap2]⟩]) → Q 7 #[true, true, true, true, true, true, true, false, true, true, true, false, false, true, false, false, false, false] (upd (upd e0 17 (.slice (some ⟨g17, 0, none⟩) (n) (n))) 9 (.pointer (some ⟨g9, 0, none⟩))) w := by
   intro g17 g9 w H; rw [hQ]
   refine Y.A [7, 11, 12, 14] rfl ⟨⟨_, rfl, ?_⟩, ⟨_, rfl, ?_⟩, ⟨_, rfl, ?_⟩, ⟨_, rfl, ?_⟩, trivial⟩
   ·refine Y.mk H (sl_run rfl) ?_
    clear H; intro g21 w H
    refine Y.z <| ⟨H.reidx [3, 4] (by decide) rfl, ?_⟩
    rw [← hQ]
    rw [upd_comm (a := 9) (b := 21) rfl]
    exact qcast (by kernel_rfl) (s110010000 g17 g21 g9 w (H.reidx [1, 0, 2, 3, 4] (by decide) rfl))
   ·refine Y.mk H (sl_run rfl) ?_
    clear H; intro g25 w H
    refine Y.z <| ⟨H.reidx [3, 4] (by decide) rfl, ?_⟩
    rw [← hQ]
    rw [upd_comm (a := 9) (b := 25) rfl]
    exact qcast (by kernel_rfl) (s101010000 g17 g25 g9 w (H.reidx [1, 0, 2, 3, 4] (by decide) rfl))
   ·refine Y.al H rfl rfl ?_
    clear H; intro g8 w H
    refine Y.z <| ⟨H.reidx [3, 4] (by decide) rfl, ?_⟩
    rw [← hQ]
    rw [upd_comm (a := 9) (b := 8) rfl]
    exact qcast (by kernel_rfl) (s100110000 g17 g8 g9 w (H.reidx [1, 0, 2, 3, 4] (by decide) rfl))
   ·refine Y.al H rfl rfl ?_
    clear H; intro g10 w H
    refine Y.z <| ⟨H.reidx [3, 4] (by decide) rfl, ?_⟩
    rw [← hQ]
    exact qcast (by kernel_rfl) (s100011000 g17 g9 g10 w (H.reidx [1, 2, 0, 3, 4] (by decide) rfl))
  have s100001000 : ∀ (g17 g10 : Nat) (w : World), SH w0 [] w ([⟨g17, 132, mkL n (stepCells default)⟩, ⟨g10, 137, [.slice none 0 0]⟩] ++ [⟨g5, 30, [.slice Ap pots.length capp]⟩, ⟨g3, 127, [I n, .slice A l.length cap, .slice B on.length cap2]⟩]) → Q 7 #[true, true, true, true, true, true, true, false, true, true, true, false, false, false, true, false, false, false] (upd (upd e0 17 (.slice (some ⟨g17, 0, none⟩) (n) (n))) 10 (.pointer (some ⟨g10, 0, none⟩))) w := by
   intro g17 g10 w H; rw [hQ]
   refine Y.A [7, 11, 12, 13] rfl ⟨⟨_, rfl, ?_⟩, ⟨_, rfl, ?_⟩, ⟨_, rfl, ?_⟩, ⟨_, rfl, ?_⟩, trivial⟩
   ·refine Y.mk H (sl_run rfl) ?_
    clear H; intro g21 w H
    refine Y.z <| ⟨H.reidx [3, 4] (by decide) rfl, ?_⟩
    rw [← hQ]
    rw [upd_comm (a := 10) (b := 21) rfl]
    exact qcast (by kernel_rfl) (s110001000 g17 g21 g10 w (H.reidx [1, 0, 2, 3, 4] (by decide) rfl))
   ·refine Y.mk H (sl_run rfl) ?_
    clear H; intro g25 w H
    refine Y.z <| ⟨H.reidx [3, 4] (by decide) rfl, ?_⟩
    rw [← hQ]
    rw [upd_comm (a := 10) (b := 25) rfl]
    exact qcast (by kernel_rfl) (s101001000 g17 g25 g10 w (H.reidx [1, 0, 2, 3, 4] (by decide) rfl))
   ·refine Y.al H rfl rfl ?_
    clear H; intro g8 w H
    refine Y.z <| ⟨H.reidx [3, 4] (by decide) rfl, ?_⟩
    rw [← hQ]
    rw [upd_comm (a := 10) (b := 8) rfl]
    exact qcast (by kernel_rfl) (s100101000 g17 g8 g10 w (H.reidx [1, 0, 2, 3, 4] (by decide) rfl))
   ·refine Y.al H rfl rfl ?_
    clear H; intro g9 w H
    refine Y.z <| ⟨H.reidx [3, 4] (by decide) rfl, ?_⟩
    rw [← hQ]
    rw [upd_comm (a := 10) (b := 9) rfl]
    exact qcast (by kernel_rfl) (s100011000 g17 g9 g10 w (H.reidx [1, 0, 2, 3, 4] (by decide) rfl))
  have s011000000 : ∀ (g21 g25 : Nat) (w : World), SH w0 [] w ([⟨g21, 3, mkL n [I 0]⟩, ⟨g25, 4, mkL n [Bo false]⟩] ++ [⟨g5, 30, [.slice Ap pots.length capp]⟩, ⟨g3, 127, [I n, .slice A l.length cap, .slice B on.length cap2]⟩]) → Q 7 #[true, true, true, false, true, true, true, true, true, true, true, true, false, false, false, false, false, false] (upd (upd e0 21 (.slice (some ⟨g21, 0, none⟩) (n) (n))) 25 (.slice (some ⟨g25, 0, none⟩) (n) (n))) w := by
   intro g21 g25 w H; rw [hQ]
   refine Y.A [3, 12, 13, 14] rfl ⟨⟨_, rfl, ?_⟩, ⟨_, rfl, ?_⟩, ⟨_, rfl, ?_⟩, ⟨_, rfl, ?_⟩, trivial⟩
   ·refine Y.mk H (sl_run rfl) ?_
    clear H; intro g17 w H
    refine Y.z <| ⟨H.reidx [3, 4] (by decide) rfl, ?_⟩
    rw [← hQ]
    rw [upd_comm (a := 25) (b := 17) rfl]
    rw [upd_comm (a := 21) (b := 17) rfl]
    exact qcast (by kernel_rfl) (s111000000 g17 g21 g25 w (H.reidx [0, 1, 2, 3, 4] (by decide) rfl))
   ·refine Y.al H rfl rfl ?_
    clear H; intro g8 w H
    refine Y.z <| ⟨H.reidx [3, 4] (by decide) rfl, ?_⟩
    rw [← hQ]
    exact qcast (by kernel_rfl) (s011100000 g21 g25 g8 w (H.reidx [1, 2, 0, 3, 4] (by decide) rfl))
   ·refine Y.al H rfl rfl ?_
    clear H; intro g9 w H
    refine Y.z <| ⟨H.reidx [3, 4] (by decide) rfl, ?_⟩
    rw [← hQ]
    exact qcast (by kernel_rfl) (s011010000 g21 g25 g9 w (H.reidx [1, 2, 0, 3, 4] (by decide) rfl))
   ·refine Y.al H rfl rfl ?_
    clear H; intro g10 w H
    refine Y.z <| ⟨H.reidx [3, 4] (by decide) rfl, ?_⟩
    rw [← hQ]
    exact qcast (by kernel_rfl) (s011001000 g21 g25 g10 w (H.reidx [1, 2, 0, 3, 4] (by decide) rfl))
  have s010100000 : ∀ (g21 g8 : Nat) (w : World), SH w0 [] w ([⟨g21, 3, mkL n [I 0]⟩, ⟨g8, 128, [.slice none 0 0]⟩] ++ [⟨g5, 30, [.slice Ap pots.length capp]⟩, ⟨g3, 127, [I n, .slice A l.length cap, .slice B on.length cap2]⟩]) → Q 7 #[true, true, true, false, true, true, true, true, true, true, true, false, true, false, false, false, false, false] (upd (upd e0 21 (.slice (some ⟨g21, 0, none⟩) (n) (n))) 8 (.pointer (some ⟨g8, 0, none⟩))) w := by
   intro g21 g8 w H; rw [hQ]
   refine Y.A [3, 11, 13, 14] rfl ⟨⟨_, rfl, ?_⟩, ⟨_, rfl, ?_⟩, ⟨_, rfl, ?_⟩, ⟨_, rfl, ?_⟩, trivial⟩
   ·refine Y.mk H (sl_run rfl) ?_
    clear H; intro g17 w H
    refine Y.z <| ⟨H.reidx [3, 4] (by decide) rfl, ?_⟩
    rw [← hQ]
    rw [upd_comm (a := 8) (b := 17) rfl]
    rw [upd_comm (a := 21) (b := 17) rfl]
    exact qcast (by kernel_rfl) (s110100000 g17 g21 g8 w (H.reidx [0, 1, 2, 3, 4] (by decide) rfl))
   ·refine Y.mk H (sl_run rfl) ?_
    clear H; intro g25 w H
    refine Y.z <| ⟨H.reidx [3, 4] (by decide) rfl, ?_⟩
    rw [← hQ]
    rw [upd_comm (a := 8) (b := 25) rfl]
    exact qcast (by kernel_rfl) (s011100000 g21 g25 g8 w (H.reidx [1, 0, 2, 3, 4] (by decide) rfl))
   ·refine Y.al H rfl rfl ?_
    clear H; intro g9 w H
    refine Y.z <| ⟨H.reidx [3, 4] (by decide) rfl, ?_⟩
    rw [← hQ]
    exact qcast (by kernel_rfl) (s010110000 g21 g8 g9 w (H.reidx [1, 2, 0, 3, 4] (by decide) rfl))
   ·refine Y.al H rfl rfl ?_
    clear H; intro g10 w H
    refine Y.z <| ⟨H.reidx [3, 4] (by decide) rfl, ?_⟩
    rw [← hQ]
    exact qcast (by kernel_rfl) (s010101000 g21 g8 g10 w (H.reidx [1, 2, 0, 3, 4] (by decide) rfl))
  have s010010000 : ∀ (g21 g9 : Nat) (w : World), SH w0 [] w ([⟨g21, 3, mkL n [I 0]⟩, ⟨g9, 30, [.slice none 0 0]⟩] ++ [⟨g5, 30, [.slice Ap pots.length capp]⟩, ⟨g3, 127, [I n, .slice A l.length cap, .slice B on.length cap2]⟩]) → Q 7 #[true, true, true, false, true, true, true, true, true, true, true, false, false, true, false, false, false, false] (upd (upd e0 21 (.slice (some ⟨g21, 0, none⟩) (n) (n))) 9 (.pointer (some ⟨g9, 0, none⟩))) w := by
   intro g21 g9 w H; rw [hQ]
   refine Y.A [3, 11, 12, 14] rfl ⟨⟨_, rfl, ?_⟩, ⟨_, rfl, ?_⟩, ⟨_, rfl, ?_⟩, ⟨_, rfl, ?_⟩, trivial⟩
   ·refine Y.mk H (sl_run rfl) ?_
    clear H; intro g17 w H
    refine Y.z <| ⟨H.reidx [3, 4] (by decide) rfl, ?_⟩
    rw [← hQ]
    rw [upd_comm (a := 9) (b := 17) rfl]
    rw [upd_comm (a := 21) (b := 17) rfl]
    exact qcast (by kernel_rfl) (s110010000 g17 g21 g9 w (H.reidx [0, 1, 2, 3, 4] (by decide) rfl))
   ·refine Y.mk H (sl_run rfl) ?_
    clear H; intro g25 w H
    refine Y.z <| ⟨H.reidx [3, 4] (by decide) rfl, ?_⟩
    rw [← hQ]
    rw [upd_comm (a := 9) (b := 25) rfl]
    exact qcast (by kernel_rfl) (s011010000 g21 g25 g9 w (H.reidx [1, 0, 2, 3, 4] (by decide) rfl))
   ·refine Y.al H rfl rfl ?_
    clear H; intro g8 w H
    refine Y.z <| ⟨H.reidx [3, 4] (by decide) rfl, ?_⟩
    rw [← hQ]
    rw [upd_comm (a := 9) (b := 8) rfl]
    exact qcast (by kernel_rfl) (s010110000 g21 g8 g9 w (H.reidx [1, 0, 2, 3, 4] (by decide) rfl))
   ·refine Y.al H rfl rfl ?_
    clear H; intro g10 w H
    refine Y.z <| ⟨H.reidx [3, 4] (by decide) rfl, ?_⟩
    rw [← hQ]
    exact qcast (by kernel_rfl) (s010011000 g21 g9 g10 w (H.reidx [1, 2, 0, 3, 4] (by decide) rfl))
  have s010001000 : ∀ (g21 g10 : Nat) (w : World), SH w0 [] w ([⟨g21, 3, mkL n [I 0]⟩, ⟨g10, 137, [.slice none 0 0]⟩] ++ [⟨g5, 30, [.slice Ap pots.length capp]⟩, ⟨g3, 127, [I n, .slice A l.length cap, .slice B on.length cap2]⟩]) → Q 7 #[true, true, true, false, true, true, true, true, true, true, true, false, false, false, true, false, false, false] (upd (upd e0 21 (.slice (some ⟨g21, 0, none⟩) (n) (n))) 10 (.pointer (some ⟨g10, 0, none⟩))) w := by
   intro g21 g10 w H; rw [hQ]
   refine Y.A [3, 11, 12, 13] rfl ⟨⟨_, rfl, ?_⟩, ⟨_, rfl, ?_⟩, ⟨_, rfl, ?_⟩, ⟨_, rfl, ?_⟩, trivial⟩
   ·refine Y.mk H (sl_run rfl) ?_
    clear H; intro g17 w H
    refine Y.z <| ⟨H.reidx [3, 4] (by decide) rfl, ?_⟩
    rw [← hQ]
    rw [upd_comm (a := 10) (b := 17) rfl]
    rw [upd_comm (a := 21) (b := 17) rfl]
    exact qcast (by kernel_rfl) (s110001000 g17 g21 g10 w (H.reidx [0, 1, 2, 3, 4] (by decide) rfl))
   ·refine Y.mk H (sl_run rfl) ?_
    clear H; intro g25 w H
    refine Y.z <| ⟨H.reidx [3, 4] (by decide) rfl, ?_⟩
    rw [← hQ]
    rw [upd_comm (a := 10) (b := 25) rfl]
    exact qcast (by kernel_rfl) (s011001000 g21 g25 g10 w (H.reidx [1, 0, 2, 3, 4] (by decide) rfl))
   ·refine Y.al H rfl rfl ?_
    clear H; intro g8 w H
    refine Y.z <| ⟨H.reidx [3, 4] (by decide) rfl, ?_⟩
    rw [← hQ]
    rw [upd_comm (a := 10) (b := 8) rfl]
    exact qcast (by kernel_rfl) (s010101000 g21 g8 g10 w (H.reidx [1, 0, 2, 3, 4] (by decide) rfl))
   ·refine Y.al H rfl rfl ?_
    clear H; intro g9 w H
    refine Y.z <| ⟨H.reidx [3, 4] (by decide) rfl, ?_⟩
    rw [← hQ]
    rw [upd_comm (a := 10) (b := 9) rfl]
    exact qcast (by kernel_rfl) (s010011000 g21 g9 g10 w (H.reidx [1, 0, 2, 3, 4] (by decide) rfl))
  have s001100000 : ∀ (g25 g8 : Nat) (w : World), SH w0 [] w ([⟨g25, 4, mkL n [Bo false]⟩, ⟨g8, 128, [.slice none 0 0]⟩] ++ [⟨g5, 30, [.slice Ap pots.length capp]⟩, ⟨g3, 127, [I n, .slice A l.length cap, .slice B on.length cap2]⟩]) → Q 7 #[true, true, true, false, true, true, true, false, true, true, true, true, true, false, false, false, false, false] (upd (upd e0 25 (.slice (some ⟨g25, 0, none⟩) (n) (n))) 8 (.pointer (some ⟨g8, 0, none⟩))) w := by
   intro g25 g8 w H; rw [hQ]
   refine Y.A [3, 7, 13, 14] rfl ⟨⟨_, rfl, ?_⟩, ⟨_, rfl, ?_⟩, ⟨_, rfl, ?_⟩, ⟨_, rfl, ?_⟩, trivial⟩
   ·refine Y.mk H (sl_run rfl) ?_
    clear H; intro g17 w H
    refine Y.z <| ⟨H.reidx [3, 4] (by decide) rfl, ?_⟩
    rw [← hQ]
    rw [upd_comm (a := 8) (b := 17) rfl]
    rw [upd_comm (a := 25) (b := 17) rfl]
    exact qcast (by kernel_rfl) (s101100000 g17 g25 g8 w (H.reidx [0, 1, 2, 3, 4] (by decide) rfl))
   ·refine Y.mk H (sl_run rfl) ?_
    clear H; intro g21 w H
    refine Y.z <| ⟨H.reidx [3, 4] (by decide) rfl, ?_⟩
    rw [← hQ]
    rw [upd_comm (a := 8) (b := 21) rfl]
    rw [upd_comm (a := 25) (b := 21) rfl]
    exact qcast (by kernel_rfl) (s011100000 g21 g25 g8 w (H.reidx [0, 1, 2, 3, 4] (by decide) rfl))
   ·refine Y.al H rfl rfl ?_
    clear H; intro g9 w H
    refine Y.z <| ⟨H.reidx [3, 4] (by decide) rfl, ?_⟩
    rw [← hQ]
    exact qcast (by kernel_rfl) (s001110000 g25 g8 g9 w (H.reidx [1, 2, 0, 3, 4] (by decide) rfl))
   ·refine Y.al H rfl rfl ?_
    clear H; intro g10 w H
    refine Y.z <| ⟨H.reidx [3, 4] (by decide) rfl, ?_⟩
    rw [← hQ]
    exact qcast (by kernel_rfl) (s001101000 g25 g8 g10 w (H.reidx [1, 2, 0, 3, 4] (by decide) rfl))
  have s001010000 : ∀ (g25 g9 : Nat) (w : World), SH w0 [] w ([⟨g25, 4, mkL n [Bo false]⟩, ⟨g9, 30, [.slice none 0 0]⟩] ++ [⟨g5, 30, [.slice Ap pots.length capp]⟩, ⟨g3, 127, [I n, .slice A l.length cap, .slice B on.length cap2]⟩]) → Q 7 #[true, true, true, false, true, true, true, false, true, true, true, true, false, true, false, false, false, false] (upd (upd e0 25 (.slice (some ⟨g25, 0, none⟩) (n) (n))) 9 (.pointer (some ⟨g9, 0, none⟩))) w := by
   intro g25 g9 w H; rw [hQ]
   refine Y.A [3, 7, 12, 14] rfl ⟨⟨_, rfl, ?_⟩, ⟨_, rfl, ?_⟩, ⟨_, rfl, ?_⟩, ⟨_, rfl, ?_⟩, trivial⟩
   ·refine Y.mk H (sl_run rfl) ?_
    clear H; intro g17 w H
    refine Y.z <| ⟨H.reidx [3, 4] (by decide) rfl, ?_⟩
    rw [← hQ]
    rw [upd_comm (a := 9) (b := 17) rfl]
    rw [upd_comm (a := 25) (b := 17) rfl]
    exact qcast (by kernel_rfl) (s101010000 g17 g25 g9 w (H.reidx [0, 1, 2, 3, 4] (by decide) rfl))
   ·refine Y.mk H (sl_run rfl) ?_
    clear H; intro g21 w H
    refine Y.z <| ⟨H.reidx [3, 4] (by decide) rfl, ?_⟩
    rw [← hQ]
    rw [upd_comm (a := 9) (b := 21) rfl]
    rw [upd_comm (a := 25) (b := 21) rfl]
    exact qcast (by kernel_rfl) (s011010000 g21 g25 g9 w (H.reidx [0, 1, 2, 3, 4] (by decide) rfl))
   ·refine Y.al H rfl rfl ?_
    clear H; intro g8 w H
    refine Y.z <| ⟨H.reidx [3, 4] (by decide) rfl, ?_⟩
    rw [← hQ]
    rw [upd_comm (a := 9) (b := 8) rfl]
    exact qcast (by kernel_rfl) (s001110000 g25 g8 g9 w (H.reidx [1, 0, 2, 3, 4] (by decide) rfl))
   ·refine Y.al H rfl rfl ?_
    clear H; intro g10 w H
    refine Y.z <| ⟨H.reidx [3, 4] (by decide) rfl, ?_⟩
    rw [← hQ]
    exact qcast (by kernel_rfl) (s001011000 g25 g9 g10 w (H.reidx [1, 2, 0, 3, 4] (by decide) rfl))
  have s001001000 : ∀ (g25 g10 : Nat) (w : World), SH w0 [] w ([⟨g25, 4, mkL n [Bo false]⟩, ⟨g10, 137, [.slice none 0 0]⟩] ++ [⟨g5, 30, [.slice Ap pots.length capp]⟩, ⟨g3, 127, [I n, .slice A l.length cap, .slice B on.length cap2]⟩]) → Q 7 #[true, true, true, false, true, true, true, false, true, true, true, true, false, false, true, false, false, false] (upd (upd e0 25 (.slice (some ⟨g25, 0, none⟩) (n) (n))) 10 (.pointer (some ⟨g10, 0, none⟩))) w := by
   intro g25 g10 w H; rw [hQ]
   refine Y.A [3, 7, 12, 13] rfl ⟨⟨_, rfl, ?_⟩, ⟨_, rfl, ?_⟩, ⟨_, rfl, ?_⟩, ⟨_, rfl, ?_⟩, trivial⟩
   ·refine Y.mk H (sl_run rfl) ?_
    clear H; intro g17 w H
    refine Y.z <| ⟨H.reidx [3, 4] (by decide) rfl, ?_⟩
    rw [← hQ]
    rw [upd_comm (a := 10) (b := 17) rfl]
    rw [upd_comm (a := 25) (b := 17) rfl]
    exact qcast (by kernel_rfl) (s101001000 g17 g25 g10 w (H.reidx [0, 1, 2, 3, 4] (by decide) rfl))
   ·refine Y.mk H (sl_run rfl) ?_
    clear H; intro g21 w H
    refine Y.z <| ⟨H.reidx [3, 4] (by decide) rfl, ?_⟩
    rw [← hQ]
    rw [upd_comm (a := 10) (b := 21) rfl]
    rw [upd_comm (a := 25) (b := 21) rfl]
    exact qcast (by kernel_rfl) (s011001000 g21 g25 g10 w (H.reidx [0, 1, 2, 3, 4] (by decide) rfl))
   ·refine Y.al H rfl rfl ?_
    clear H; intro g8 w H
    refine Y.z <| ⟨H.reidx [3, 4] (by decide) rfl, ?_⟩
    rw [← hQ]
    rw [upd_comm (a := 10) (b := 8) rfl]
    exact qcast (by kernel_rfl) (s001101000 g25 g8 g10 w (H.reidx [1, 0, 2, 3, 4] (by decide) rfl))
   ·refine Y.al H rfl rfl ?_
    clear H; intro g9 w H
    refine Y.z <| ⟨H.reidx [3, 4] (by decide) rfl, ?_⟩
    rw [← hQ]
    rw [upd_comm (a := 10) (b := 9) rfl]
    exact qcast (by kernel_rfl) (s001011000 g25 g9 g10 w (H.reidx [1, 0, 2, 3, 4] (by decide) rfl))
  have s000110000 : ∀ (g8 g9 : Nat) (w : World), SH w0 [] w ([⟨g8, 128, [.slice none 0 0]⟩, ⟨g9, 30, [.slice none 0 0]⟩] ++ [⟨g5, 30, [.slice Ap pots.length capp]⟩, ⟨g3, 127, [I n, .slice A l.length cap, .slice B on.length cap2]⟩]) → Q 7 #[true, true, true, false, true, true, true, false, true, true, true, false, true, true, false, false, false, false] (upd (upd e0 8 (.pointer (some ⟨g8, 0, none⟩))) 9 (.pointer (some ⟨g9, 0, none⟩))) w := by
   intro g8 g9 w H; rw [hQ]
   refine Y.A [3, 7, 11, 14] rfl ⟨⟨_, rfl, ?_⟩, ⟨_, rfl, ?_⟩, ⟨_, rfl, ?_⟩, ⟨_, rfl, ?_⟩, trivial⟩
   ·refine Y.mk H (sl_run rfl) ?_
    clear H; intro g17 w H
    refine Y.z <| ⟨H.reidx [3, 4] (by decide) rfl, ?_⟩
    rw [← hQ]
    rw [upd_comm (a := 9) (b := 17) rfl]
    rw [upd_comm (a := 8) (b := 17) rfl]
    exact qcast (by kernel_rfl) (s100110000 g17 g8 g9 w (H.reidx [0, 1, 2, 3, 4] (by decide) rfl))
   ·refine Y.mk H (sl_run rfl) ?_
    clear H; intro g21 w H
    refine Y.z <| ⟨H.reidx [3, 4] (by decide) rfl, ?_⟩
    rw [← hQ]
    rw [upd_comm (a := 9) (b := 21) rfl]
    rw [upd_comm (a := 8) (b := 21) rfl]
    exact qcast (by kernel_rfl) (s010110000 g21 g8 g9 w (H.reidx [0, 1, 2, 3, 4] (by decide) rfl))
   ·refine Y.mk H (sl_run rfl) ?_
    clear H; intro g25 w H
    refine Y.z <| ⟨H.reidx [3, 4] (by decide) rfl, ?_⟩
    rw [← hQ]
    rw [upd_comm (a := 9) (b := 25) rfl]
    rw [upd_comm (a := 8) (b := 25) rfl]
    exact qcast (by kernel_rfl) (s001110000 g25 g8 g9 w (H.reidx [0, 1, 2, 3, 4] (by decide) rfl))
   ·refine Y.al H rfl rfl ?_
    clear H; intro g10 w H
    refine Y.z <| ⟨H.reidx [3, 4] (by decide) rfl, ?_⟩
    rw [← hQ]
    exact qcast (by kernel_rfl) (s000111000 g8 g9 g10 w (H.reidx [1, 2, 0, 3, 4] (by decide) rfl))
  have s000101000 : ∀ (g8 g10 : Nat) (w : World), SH w0 [] w ([⟨g8, 128, [.slice none 0 0]⟩, ⟨g10, 137, [.slice none 0 0]⟩] ++ [⟨g5, 30, [.slice Ap pots.length capp]⟩, ⟨g3, 127, [I n, .slice A l.length cap, .slice B on.length cap2]⟩]) → Q 7 #[true, true, true, false, true, true, true, false, true, true, true, false, true, false, true, false, false, false] (upd (upd e0 8 (.pointer (some ⟨g8, 0, none⟩))) 10 (.pointer (some ⟨g10, 0, none⟩))) w := by
   intro g8 g10 w H; rw [hQ]
   refine Y.A [3, 7, 11, 13] rfl ⟨⟨_, rfl, ?_⟩, ⟨_, rfl, ?_⟩, ⟨_, rfl, ?_⟩, ⟨_, rfl, ?_⟩, trivial⟩
   ·refine Y.mk H (sl_run rfl) ?_
    clear H; intro g17 w H
    refine Y.z <| ⟨H.reidx [3, 4] (by decide) rfl, ?_⟩
    rw [← hQ]
    rw [upd_comm (a := 10) (b := 17) rfl]
    rw [upd_comm (a := 8) (b := 17) rfl]
    exact qcast (by kernel_rfl) (s100101000 g17 g8 g10 w (H.reidx [0, 1, 2, 3, 4] (by decide) rfl))
   ·refine Y.mk H (sl_run rfl) ?_
    clear H; intro g21 w H
    refine Y.z <| ⟨H.reidx [3, 4] (by decide) rfl, ?_⟩
    rw [← hQ]
    rw [upd_comm (a := 10) (b := 21) rfl]
    rw [upd_comm (a := 8) (b := 21) rfl]
    exact qcast (by kernel_rfl) (s010101000 g21 g8 g10 w (H.reidx [0, 1, 2, 3, 4] (by decide) rfl))
   ·refine Y.mk H (sl_run rfl) ?_
    clear H; intro g25 w H
    refine Y.z <| ⟨H.reidx [3, 4] (by decide) rfl, ?_⟩
    rw [← hQ]
    rw [upd_comm (a := 10) (b := 25) rfl]
    rw [upd_comm (a := 8) (b := 25) rfl]
    exact qcast (by kernel_rfl) (s001101000 g25 g8 g10 w (H.reidx [0, 1, 2, 3, 4] (by decide) rfl))
   ·refine Y.al H rfl rfl ?_
    clear H; intro g9 w H
    refine Y.z <| ⟨H.reidx [3, 4] (by decide) rfl, ?_⟩
    rw [← hQ]
    rw [upd_comm (a := 10) (b := 9) rfl]
    exact qcast (by kernel_rfl) (s000111000 g8 g9 g10 w (H.reidx [1, 0, 2, 3, 4] (by decide) rfl))
  have s000011000 : ∀ (g9 g10 : Nat) (w : World), SH w0 [] w ([⟨g9, 30, [.slice none 0 0]⟩, ⟨g10, 137, [.slice none 0 0]⟩] ++ [⟨g5, 30, [.slice Ap pots.length capp]⟩, ⟨g3, 127, [I n, .slice A l.length cap, .slice B on.length cap2]⟩]) → Q 7 #[true, true, true, false, true, true, true, false, true, true, true, false, false, true, true, false, false, false] (upd (upd e0 9 (.pointer (some ⟨g9, 0, none⟩))) 10 (.pointer (some ⟨g10, 0, none⟩))) w := by
   intro g9 g10 w H; rw [hQ]
   refine Y.A [3, 7, 11, 12] rfl ⟨⟨_, rfl, ?_⟩, ⟨_, rfl, ?_⟩, ⟨_, rfl, ?_⟩, ⟨_, rfl, ?_⟩, trivial⟩
   ·refine Y.mk H (sl_run rfl) ?_
    clear H; intro g17 w H
    refine Y.z <| ⟨H.reidx [3, 4] (by decide) rfl, ?_⟩
    rw [← hQ]
    rw [upd_comm (a := 10) (b := 17) rfl]
    rw [upd_comm (a := 9) (b := 17) rfl]
    exact qcast (by kernel_rfl) (s100011000 g17 g9 g10 w (H.reidx [0, 1, 2, 3, 4] (by decide) rfl))
   ·refine Y.mk H (sl_run rfl) ?_
    clear H; intro g21 w H
    refine Y.z <| ⟨H.reidx [3, 4] (by decide) rfl, ?_⟩
    rw [← hQ]
    rw [upd_comm (a := 10) (b := 21) rfl]
    rw [upd_comm (a := 9) (b := 21) rfl]
    exact qcast (by kernel_rfl) (s010011000 g21 g9 g10 w (H.reidx [0, 1, 2, 3, 4] (by decide) rfl))
   ·refine Y.mk H (sl_run rfl) ?_
    clear H; intro g25 w H
    refine Y.z <| ⟨H.reidx [3, 4] (by decide) rfl, ?_⟩
    rw [← hQ]
    rw [upd_comm (a := 10) (b := 25) rfl]
    rw [upd_comm (a := 9) (b := 25) rfl]
    exact qcast (by kernel_rfl) (s001011000 g25 g9 g10 w (H.reidx [0, 1, 2, 3, 4] (by decide) rfl))
   ·refine Y.al H rfl rfl ?_
    clear H; intro g8 w H
    refine Y.z <| ⟨H.reidx [3, 4] (by decide) rfl, ?_⟩
    rw [← hQ]
    rw [upd_comm (a := 10) (b := 8) rfl]
    rw [upd_comm (a := 9) (b := 8) rfl]
    exact qcast (by kernel_rfl) (s000111000 g8 g9 g10 w (H.reidx [0, 1, 2, 3, 4] (by decide) rfl))
  clear s111000000 s110100000 s110010000 s110001000 s101100000 s101010000 s101001000 s100110000 s100101000 s100011000 s011100000 s011010000 s011001000 s010110000 s010101000 s010011000 s001110000 s001101000 s001011000 s000111000
  have s100000000 : ∀ (g17 : Nat) (w : World), SH w0 [] w ([⟨g17, 132, mkL n (stepCells default)⟩] ++ [⟨g5, 30, [.slice Ap pots.length capp]⟩, ⟨g3, 127, [I n, .slice A l.length cap, .slice B on.length cap2]⟩]) → Q 8 #[true, true, true, true, true, true, true, false, true, true, true, false, false, false, false, false, false, false] (upd e0 17 (.slice (some ⟨g17, 0, none⟩) (n) (n))) w := by
   intro g17 w H; rw [hQ]
   refine Y.A [7, 11, 12, 13, 14] rfl ⟨⟨_, rfl, ?_⟩, ⟨_, rfl, ?_⟩, ⟨_, rfl, ?_⟩, ⟨_, rfl, ?_⟩, ⟨_, rfl, ?_⟩, trivial⟩
   ·refine Y.mk H (sl_run rfl) ?_
    clear H; intro g21 w H
    refine Y.z <| ⟨H.reidx [2, 3] (by decide) rfl, ?_⟩
    rw [← hQ]
    exact qcast (by kernel_rfl) (s110000000 g17 g21 w (H.reidx [1, 0, 2, 3] (by decide) rfl))
   ·refine Y.mk H (sl_run rfl) ?_
    clear H; intro g25 w H
    refine Y.z <| ⟨H.reidx [2, 3] (by decide) rfl, ?_⟩
    rw [← hQ]
    exact qcast (by kernel_rfl) (s101000000 g17 g25 w (H.reidx [1, 0, 2, 3] (by decide) rfl))
   ·refine Y.al H rfl rfl ?_
    clear H; intro g8 w H
    refine Y.z <| ⟨H.reidx [2, 3] (by decide) rfl, ?_⟩
    rw [← hQ]
    exact qcast (by kernel_rfl) (s100100000 g17 g8 w (H.reidx [1, 0, 2, 3] (by decide) rfl))
   ·refine Y.al H rfl rfl ?_
    clear H; intro g9 w H
    refine Y.z <| ⟨H.reidx [2, 3] (by decide) rfl, ?_⟩
    rw [← hQ]
    exact qcast (by kernel_rfl) (s100010000 g17 g9 w (H.reidx [1, 0, 2, 3] (by decide) rfl))
   ·refine Y.al H rfl rfl ?_
    clear H; intro g10 w H
    refine Y.z <| ⟨H.reidx [2, 3] (by decide) rfl, ?_⟩
    rw [← hQ]
    exact qcast (by kernel_rfl) (s100001000 g17 g10 w (H.reidx [1, 0, 2, 3] (by decide) rfl))
  have s010000000 : ∀ (g21 : Nat) (w : World), SH w0 [] w ([⟨g21, 3, mkL n [I 0]⟩] ++ [⟨g5, 30, [.slice Ap pots.length capp]⟩, ⟨g3, 127, [I n, .slice A l.length cap, .slice B on.length cap2]⟩]) → Q 8 #[true, true, true, false, true, true, true, true, true, true, true, false, false, false, false, false, false, false] (upd e0 21 (.slice (some ⟨g21, 0, none⟩) (n) (n))) w := by
   intro g21 w H; rw [hQ]
   refine Y.A [3, 11, 12, 13, 14] rfl ⟨⟨_, rfl, ?_⟩, ⟨_, rfl, ?_⟩, ⟨_, rfl, ?_⟩, ⟨_, rfl, ?_⟩, ⟨_, rfl, ?_⟩, trivial⟩
   ·refine Y.mk H (sl_run rfl) ?_
    clear H; intro g17 w H
    refine Y.z <| ⟨H.reidx [2, 3] (by decide) rfl, ?_⟩
    rw [← hQ]
    rw [upd_comm (a := 21) (b := 17) rfl]
    exact qcast (by kernel_rfl) (s110000000 g17 g21 w (H.reidx [0, 1, 2, 3] (by decide) rfl))
   ·refine Y.mk H (sl_run rfl) ?_
    clear H; intro g25 w H
    refine Y.z <| ⟨H.reidx [2, 3] (by decide) rfl, ?_⟩
    rw [← hQ]
    exact qcast (by kernel_rfl) (s011000000 g21 g25 w (H.reidx [1, 0, 2, 3] (by decide) rfl))
   ·refine Y.al H rfl rfl ?_
    clear H; intro g8 w H
    refine Y.z <| ⟨H.reidx [2, 3] (by decide) rfl, ?_⟩
    rw [← hQ]
    exact qcast (by kernel_rfl) (s010100000 g21 g8 w (H.reidx [1, 0, 2, 3] (by decide) rfl))
   ·refine Y.al H rfl rfl ?_
    clear H; intro g9 w H
    refine Y.z <| ⟨H.reidx [2, 3] (by decide) rfl, ?_⟩
    rw [← hQ]
    exact qcast (by kernel_rfl) (s010010000 g21 g9 w (H.reidx [1, 0, 2, 3] (by decide) rfl))
   ·refine Y.al H rfl rfl ?_
    clear H; intro g10 w H
    refine Y.z <| ⟨H.reidx [2, 3] (by decide) rfl, ?_⟩
    rw [← hQ]
    exact qcast (by kernel_rfl) (s010001000 g21 g10 w (H.reidx [1, 0, 2, 3] (by decide) rfl))
  have s001000000 : ∀ (g25 : Nat) (w : World), SH w0 [] w ([⟨g25, 4, mkL n [Bo false]⟩] ++ [⟨g5, 30, [.slice Ap pots.length capp]⟩, ⟨g3, 127, [I n, .slice A l.length cap, .slice B on.length cap2]⟩]) → Q 8 #[true, true, true, false, true, true, true, false, true, true, true, true, false, false, false, false, false, false] (upd e0 25 (.slice (some ⟨g25, 0, none⟩) (n) (n))) w := by
   intro g25 w H; rw [hQ]
   refine Y.A [3, 7, 12, 13, 14] rfl ⟨⟨_, rfl, ?_⟩, ⟨_, rfl, ?_⟩, ⟨_, rfl, ?_⟩, ⟨_, rfl, ?_⟩, ⟨_, rfl, ?_⟩, trivial⟩
   ·refine Y.mk H (sl_run rfl) ?_
    clear H; intro g17 w H
    refine Y.z <| ⟨H.reidx [2, 3] (by decide) rfl, ?_⟩
    rw [← hQ]
    rw [upd_comm (a := 25) (b := 17) rfl]
    exact qcast (by kernel_rfl) (s101000000 g17 g25 w (H.reidx [0, 1, 2, 3] (by decide) rfl))
   ·refine Y.mk H (sl_run rfl) ?_
    clear H; intro g21 w H
    refine Y.z <| ⟨H.reidx [2, 3] (by decide) rfl, ?_⟩
    rw [← hQ]
    rw [upd_comm (a := 25) (b := 21) rfl]
    exact qcast (by kernel_rfl) (s011000000 g21 g25 w (H.reidx [0, 1, 2, 3] (by decide) rfl))
   ·refine Y.al H rfl rfl ?_
    clear H; intro g8 w H
    refine Y.z <| ⟨H.reidx [2, 3] (by decide) rfl, ?_⟩
    rw [← hQ]
    exact qcast (by kernel_rfl) (s001100000 g25 g8 w (H.reidx [1, 0, 2, 3] (by decide) rfl))
   ·refine Y.al H rfl rfl ?_
    clear H; intro g9 w H
    refine Y.z <| ⟨H.reidx [2, 3] (by decide) rfl, ?_⟩
    rw [← hQ]
    exact qcast (by kernel_rfl) (s001010000 g25 g9 w (H.reidx [1, 0, 2, 3] (by decide) rfl))
   ·refine Y.al H rfl rfl ?_
    clear H; intro g10 w H
    refine Y.z <| ⟨H.reidx [2, 3] (by decide) rfl, ?_⟩
    rw [← hQ]
    exact qcast (by kernel_rfl) (s001001000 g25 g10 w (H.reidx [1, 0, 2, 3] (by decide) rfl))
  have s000100000 : ∀ (g8 : Nat) (w : World), SH w0 [] w ([⟨g8, 128, [.slice none 0 0]⟩] ++ [⟨g5, 30, [.slice Ap pots.length capp]⟩, ⟨g3, 127, [I n, .slice A l.length cap, .slice B on.length cap2]⟩]) → Q 8 #[true, true, true, false, true, true, true, false, true, true, true, false, true, false, false, false, false, false] (upd e0 8 (.pointer (some ⟨g8, 0, none⟩))) w := by
   intro g8 w H; rw [hQ]
   refine Y.A [3, 7, 11, 13, 14] rfl ⟨⟨_, rfl, ?_⟩, ⟨_, rfl, ?_⟩, ⟨_, rfl, ?_⟩, ⟨_, rfl, ?_⟩, ⟨_, rfl, ?_⟩, trivial⟩
   ·refine Y.mk H (sl_run rfl) ?_
    clear H; intro g17 w H
    refine Y.z <| ⟨H.reidx [2, 3] (by decide) rfl, ?_⟩
    rw [← hQ]
    rw [upd_comm (a := 8) (b := 17) rfl]
    exact qcast (by kernel_rfl) (s100100000 g17 g8 w (H.reidx [0, 1, 2, 3] (by decide) rfl))
   ·refine Y.mk H (sl_run rfl) ?_
    clear H; intro g21 w H
    refine Y.z <| ⟨H.reidx [2, 3] (by decide) rfl, ?_⟩
    rw [← hQ]
    rw [upd_comm (a := 8) (b := 21) rfl]
    exact qcast (by kernel_rfl) (s010100000 g21 g8 w (H.reidx [0, 1, 2, 3] (by decide) rfl))
   ·refine Y.mk H (sl_run rfl) ?_
    clear H; intro g25 w H
    refine Y.z <| ⟨H.reidx [2, 3] (by decide) rfl, ?_⟩
    rw [← hQ]
    rw [upd_comm (a := 8) (b := 25) rfl]
    exact qcast (by kernel_rfl) (s001100000 g25 g8 w (H.reidx [0, 1, 2, 3] (by decide) rfl))
   ·refine Y.al H rfl rfl ?_
    clear H; intro g9 w H
    refine Y.z <| ⟨H.reidx [2, 3] (by decide) rfl, ?_⟩
    rw [← hQ]
    exact qcast (by kernel_rfl) (s000110000 g8 g9 w (H.reidx [1, 0, 2, 3] (by decide) rfl))
   ·refine Y.al H rfl rfl ?_
    clear H; intro g10 w H
    refine Y.z <| ⟨H.reidx [2, 3] (by decide) rfl, ?_⟩
    rw [← hQ]
    exact qcast (by kernel_rfl) (s000101000 g8 g10 w (H.reidx [1, 0, 2, 3] (by decide) rfl))
  have s000010000 : ∀ (g9 : Nat) (w : World), SH w0 [] w ([⟨g9, 30, [.slice none 0 0]⟩] ++ [⟨g5, 30, [.slice Ap pots.length capp]⟩, ⟨g3, 127, [I n, .slice A l.length cap, .slice B on.length cap2]⟩]) → Q 8 #[true, true, true, false, true, true, true, false, true, true, true, false, false, true, false, false, false, false] (upd e0 9 (.pointer (some ⟨g9, 0, none⟩))) w := by
   intro g9 w H; rw [hQ]
   refine Y.A [3, 7, 11, 12, 14] rfl ⟨⟨_, rfl, ?_⟩, ⟨_, rfl, ?_⟩, ⟨_, rfl, ?_⟩, ⟨_, rfl, ?_⟩, ⟨_, rfl, ?_⟩, trivial⟩
   ·refine Y.mk H (sl_run rfl) ?_
    clear H; intro g17 w H
    refine Y.z <| ⟨H.reidx [2, 3] (by decide) rfl, ?_⟩
    rw [← hQ]
    rw [upd_comm (a := 9) (b := 17) rfl]
    exact qcast (by kernel_rfl) (s100010000 g17 g9 w (H.reidx [0, 1, 2, 3] (by decide) rfl))
   ·refine Y.mk H (sl_run rfl) ?_
    clear H; intro g21 w H
    refine Y.z <| ⟨H.reidx [2, 3] (by decide) rfl, ?_⟩
    rw [← hQ]
    rw [upd_comm (a := 9) (b := 21) rfl]
    exact qcast (by kernel_rfl) (s010010000 g21 g9 w (H.reidx [0, 1, 2, 3] (by decide) rfl))
   ·refine Y.mk H (sl_run rfl) ?_
    clear H; intro g25 w H
    refine Y.z <| ⟨H.reidx [2, 3] (by decide) rfl, ?_⟩
    rw [← hQ]
    rw [upd_comm (a := 9) (b := 25) rfl]
    exact qcast (by kernel_rfl) (s001010000 g25 g9 w (H.reidx [0, 1, 2, 3] (by decide) rfl))
   ·refine Y.al H rfl rfl ?_
    clear H; intro g8 w H
    refine Y.z <| ⟨H.reidx [2, 3] (by decide) rfl, ?_⟩
    rw [← hQ]
    rw [upd_comm (a := 9) (b := 8) rfl]
    exact qcast (by kernel_rfl) (s000110000 g8 g9 w (H.reidx [0, 1, 2, 3] (by decide) rfl))
   ·refine Y.al H rfl rfl ?_
    clear H; intro g10 w H
    refine Y.z <| ⟨H.reidx [2, 3] (by decide) rfl, ?_⟩
    rw [← hQ]
    exact qcast (by kernel_rfl) (s000011000 g9 g10 w (H.reidx [1, 0, 2, 3] (by decide) rfl))
  have s000001000 : ∀ (g10 : Nat) (w : World), SH w0 [] w ([⟨g10, 137, [.slice none 0 0]⟩] ++ [⟨g5, 30, [.slice Ap pots.length capp]⟩, ⟨g3, 127, [I n, .slice A l.length cap, .slice B on.length cap2]⟩]) → Q 8 #[true, true, true, false, true, true, true, false, true, true, true, false, false, false, true, false, false, false] (upd e0 10 (.pointer (some ⟨g10, 0, none⟩))) w := by
   intro g10 w H; rw [hQ]
   refine Y.A [3, 7, 11, 12, 13] rfl ⟨⟨_, rfl, ?_⟩, ⟨_, rfl, ?_⟩, ⟨_, rfl, ?_⟩, ⟨_, rfl, ?_⟩, ⟨_, rfl, ?_⟩, trivial⟩
   ·refine Y.mk H (sl_run rfl) ?_
    clear H; intro g17 w H
    refine Y.z <| ⟨H.reidx [2, 3] (by decide) rfl, ?_⟩
    rw [← hQ]
    rw [upd_comm (a := 10) (b := 17) rfl]
    exact qcast (by kernel_rfl) (s100001000 g17 g10 w (H.reidx [0, 1, 2, 3] (by decide) rfl))
   ·refine Y.mk H (sl_run rfl) ?_
    clear H; intro g21 w H
    refine Y.z <| ⟨H.reidx [2, 3] (by decide) rfl, ?_⟩
    rw [← hQ]
    rw [upd_comm (a := 10) (b := 21) rfl]
    exact qcast (by kernel_rfl) (s010001000 g21 g10 w (H.reidx [0, 1, 2, 3] (by decide) rfl))
   ·refine Y.mk H (sl_run rfl) ?_
    clear H; intro g25 w H
    refine Y.z <| ⟨H.reidx [2, 3] (by decide) rfl, ?_⟩
    rw [← hQ]
    rw [upd_comm (a := 10) (b := 25) rfl]
    exact qcast (by kernel_rfl) (s001001000 g25 g10 w (H.reidx [0, 1, 2, 3] (by decide) rfl))
   ·refine Y.al H rfl rfl ?_
    clear H; intro g8 w H
    refine Y.z <| ⟨H.reidx [2, 3] (by decide) rfl, ?_⟩
    rw [← hQ]
    rw [upd_comm (a := 10) (b := 8) rfl]
    exact qcast (by kernel_rfl) (s000101000 g8 g10 w (H.reidx [0, 1, 2, 3] (by decide) rfl))
   ·refine Y.al H rfl rfl ?_
    clear H; intro g9 w H
    refine Y.z <| ⟨H.reidx [2, 3] (by decide) rfl, ?_⟩
    rw [← hQ]
    rw [upd_comm (a := 10) (b := 9) rfl]
    exact qcast (by kernel_rfl) (s000011000 g9 g10 w (H.reidx [0, 1, 2, 3] (by decide) rfl))
  clear s110000000 s101000000 s100100000 s100010000 s100001000 s011000000 s010100000 s010010000 s010001000 s001100000 s001010000 s001001000 s000110000 s000101000 s000011000
  have s000000000 : ∀ (w : World), SH w0 [] w ([] ++ [⟨g5, 30, [.slice Ap pots.length capp]⟩, ⟨g3, 127, [I n, .slice A l.length cap, .slice B on.length cap2]⟩]) → Q 9 #[true, true, true, false, true, true, true, false, true, true, true, false, false, false, false, false, false, false] e0 w := by
   intro w H; rw [hQ]
   refine Y.A [3, 7, 11, 12, 13, 14] rfl ⟨⟨_, rfl, ?_⟩, ⟨_, rfl, ?_⟩, ⟨_, rfl, ?_⟩, ⟨_, rfl, ?_⟩, ⟨_, rfl, ?_⟩, ⟨_, rfl, ?_⟩, trivial⟩
   ·refine Y.mk H (sl_run rfl) ?_
    clear H; intro g17 w H
    refine Y.z <| ⟨H.reidx [1, 2] (by decide) rfl, ?_⟩
    rw [← hQ]
    exact qcast (by kernel_rfl) (s100000000 g17 w (H.reidx [0, 1, 2] (by decide) rfl))
   ·refine Y.mk H (sl_run rfl) ?_
    clear H; intro g21 w H
    refine Y.z <| ⟨H.reidx [1, 2] (by decide) rfl, ?_⟩
    rw [← hQ]
    exact qcast (by kernel_rfl) (s010000000 g21 w (H.reidx [0, 1, 2] (by decide) rfl))
   ·refine Y.mk H (sl_run rfl) ?_
    clear H; intro g25 w H
    refine Y.z <| ⟨H.reidx [1, 2] (by decide) rfl, ?_⟩
    rw [← hQ]
    exact qcast (by kernel_rfl) (s001000000 g25 w (H.reidx [0, 1, 2] (by decide) rfl))
   ·refine Y.al H rfl rfl ?_
    clear H; intro g8 w H
    refine Y.z <| ⟨H.reidx [1, 2] (by decide) rfl, ?_⟩
    rw [← hQ]
    exact qcast (by kernel_rfl) (s000100000 g8 w (H.reidx [0, 1, 2] (by decide) rfl))
   ·refine Y.al H rfl rfl ?_
    clear H; intro g9 w H
    refine Y.z <| ⟨H.reidx [1, 2] (by decide) rfl, ?_⟩
    rw [← hQ]
    exact qcast (by kernel_rfl) (s000010000 g9 w (H.reidx [0, 1, 2] (by decide) rfl))
   ·refine Y.al H rfl rfl ?_
    clear H; intro g10 w H
    refine Y.z <| ⟨H.reidx [1, 2] (by decide) rfl, ?_⟩
    rw [← hQ]
    exact qcast (by kernel_rfl) (s000001000 g10 w (H.reidx [0, 1, 2] (by decide) rfl))
  exact s000000000 w H
 clear H
 rintro u w ⟨gS, gI, gD, g8, g9, g10, h8, h9, h10, H⟩
 refine WP.know (t := 8) h8 (WP.know (t := 9) h9 (WP.know (t := 10) h10 ?_))
 refine Y.qr <| Y.j H 3 rfl rfl rfl <| Y.a rfl <| Y.a rfl <| Y.v (Ev.build (bld_132_0_1_4 rfl rfl rfl)) <| Y.v (Y.X rfl rfl rfl rfl rfl) ?_
 have hpu : putL (mkL n (stepCells default)) (0 + s * 6) (stepCells ⟨s, -1, 0, false, true, 0⟩) = (reachInit n s).flatMap stepCells := by rw [Nat.zero_add, mkL_rows]; exact putL_rows stepCells_len (List.replicate n default) s ⟨s, -1, 0, false, true, 0⟩ (by simpa using hs)
 refine OPS.store (vs := stepCells ⟨s, -1, 0, false, true, 0⟩) 0 _ rfl rfl rfl (size_run rfl) rfl (cA rfl) rfl rfl H rfl (by simp only [mkL_length, stepCells_len]; omega) ?_
 clear H; intro w H
 simp only [List.set_cons_zero, List.set_cons_succ] at H
 rw [hpu] at H
 refine Y.z <| Y.qr <| OPS.call (d := some 31) rfl rfl rfl (EvC.func (fun_run rfl)) (qNew w) ?_
 rintro _ w ⟨gq, rfl, Hc⟩
 refine ⟨_, rfl, ?_⟩
 replace H := SH.call (Lv := []) (by simpa using H) Hc
 clear Hc
 refine Y.al H rfl rfl ?_
 clear H; intro g11 w H
 refine Y.ss 0 H rfl (cP rfl) rfl ?_
 clear H; intro w H
 refine Y.z <| Y.q ?_
 replace H := H.reidx (L' := [⟨g11, 155, [.pointer (some ⟨gq, 0, none⟩)]⟩, ⟨gS, 132, (reachInit n s).flatMap stepCells⟩, ⟨gI, 3, mkL n [I 0]⟩, ⟨gD, 4, mkL n [Bo false]⟩, ⟨g8, 128, [.slice (some ⟨gS, 0, none⟩) n n]⟩, ⟨g9, 30, [.slice (some ⟨gI, 0, none⟩) n n]⟩, ⟨g10, 137, [.slice (some ⟨gD, 0, none⟩) n n]⟩, ⟨g5, 30, [.slice Ap pots.length capp]⟩, ⟨g3, 127, [I n, .slice A l.length cap, .slice B on.length cap2]⟩] ++ qLv gq none 0 [] 0 []) [0, 1, 2, 3, 4, 5, 6, 7, 8, 9] (by decide) rfl
 refine Y.r <| Y.j H 0 rfl rfl rfl <| Y.a rfl <| Y.v (Ev.build (bld_158_0 rfl)) <| OPS.call (d := some 35) rfl rfl rfl (EvC.func (fun_run rfl)) (qPush gq 0 none 0 s 0 [] [] w (qLv gq none 0 [] 0 [] |>.map (·.g)) OwnS.nil HeapOk.nil (by simp) (by omega) (H.restart (List.sublist_append_right _ _))) ?_
 rintro _ w ⟨rfl, Aq, capq, h1, Lo, hpm, hh1, hO1, Hc⟩
 refine ⟨_, rfl, ?_⟩
 obtain rfl : h1 = [⟨s, 0, 0⟩] := List.perm_singleton.1 hpm
 replace H := SH.call (Lv := qLv gq none 0 [] 0 []) H Hc
 clear Hc
 have H2 : SH w0 [] w (⟨g3, 127, [I n, .slice A l.length cap, .slice B on.length cap2]⟩ :: nTail ⟨0, g10, g5, g8, g9, g11, gS, gI, gD, gq⟩ n Ap pots.length capp (List.replicate n false) ⟨reachInit n s, List.replicate n 0, [⟨s, 0, 0⟩], 0 + 1, Aq, capq, Lo⟩) := by
  rw [mkL_ones (enc1 := I) n 0, mkL_ones (enc1 := Bo) n false] at H
  exact H.reidxT (L' := [_, _, _, _, _, _, _, _, _]) [8, 6, 7, 4, 5, 0, 3, 1, 2] (by decide) rfl
 replace H := H2
 clear H2
 refine Y.z <| WP.block <| WP.loop [6, 7, 12, 13, 36, 37, 38, 39, 40, 41, 42, 43, 44, 45, 46, 47, 48, 49, 50, 51, 52, 53, 54, 55, 56] (fun k _ w' => ∃ (st : NSt) (done : List Bool) (rk : Nat → Int) (D : Int) (x : Nat), SH w0 [] w' (⟨g3, 127, [I n, .slice A l.length cap, .slice B on.length cap2]⟩ :: nTail ⟨0, g10, g5, g8, g9, g11, gS, gI, gD, gq⟩ n Ap pots.length capp done st) ∧ NStOk n st ∧ DI (pof pots) l on n s x (fun _ _ => True) st done rk D ∧ 0 ≤ st.p ∧ st.p ≤ 1 + 2000 * ((n : Int) - openN done) ∧ (st.h.length : Int) ≤ st.p ∧ openN done * 2000 + st.h.length ≤ k) (n * 2000 + 1) (⟨_, _, _, _, s, H, ⟨by simp [reachInit], by simp, hO1, hh1⟩, DI.init hs (by show pots.getD (s : Int).toNat 0 ≤ 0; rw [Int.toNat_natCast, hp0]; exact Int.le_refl _), by simp, by simp [openN], by simp, by simp [openN]⟩) ?_
 clear H hO1 hh1
 rintro k u w ⟨st, done, rk, D, x, H, hok, hdi, hp1, hp2, hp3, hk⟩
 unfold nTail at H
 have hdl := hdi.olen
 have hon := openN_le done
 have hhl : st.h.length ≤ 1000000 := by omega
 refine WP.block <| Y.qr <| Y.j H 5 rfl rfl rfl <| OPS.call (d := some 38) rfl rfl rfl (EvC.func (fun_run rfl)) (qPop2 gq st.cap st.A st.p st.h st.Lo w (qLv gq st.A st.cap st.h st.p st.Lo |>.map (·.g)) hok.own hok.heap hhl (H.restart ((List.sublist_append_right _ _).trans (List.sublist_cons_self _ _)))) ?_
 rintro _ w ⟨y, ok, h', Lo', rfl, hno, hyes, hh', hO', Hc⟩
 refine ⟨_, rfl, ?_⟩
 replace H := SH.call (Lv := qLv gq st.A st.cap st.h st.p st.Lo) (L1 := _ :: [_, _, _, _, _, _, _, _]) H Hc
 clear Hc
 refine Y.v (Ev.mvT rfl) <| Y.v (Ev.extract rfl rfl) <| Y.v (Ev.extract rfl rfl) <| Y.al H rfl rfl ?_
 clear H; intro g12 w H
 refine Y.ss 0 H rfl (cA rfl) rfl ?_
 clear H; intro w H
 refine Y.v (Ev.asB rfl) <| Y.z <| Y.q <| Y.qr <| Y.v (Ev.mvB rfl) <| Y.v (Ev.not rfl) <| Y.z ?_
 refine WP.cond rfl (fun hc6 => ?_) (fun hc6 => ?_)
 ·have hok2 : ok = false := by simpa using hc6
  refine Y.q <| WP.rstill mixed (by kernel_rfl) H ?_
  clear H; intro w hbw7 H
  refine Y.j H 4 rfl rfl rfl <| Y.j H 5 rfl rfl rfl <| Y.v (Ev.asS rfl) <| Y.v (Ev.asS rfl) <| OPS.nil_s ?_
  refine WP.ret ⟨_, rfl, ?_⟩
  exact ⟨gS, gI, st.sts, st.dist, rk, rfl, hdi.near (hno hok2).1, H.reidx [8, 9] (by decide) rfl⟩
 have hok2 : ok = true := by simpa using hc6
 obtain ⟨hpm2, hmin⟩ := hyes hok2
 obtain ⟨v, hvn, hyv, hkv, hle⟩ := hdi.ent y (hpm2.subset (List.mem_cons_self ..))
 have hlen2 := hpm2.length_eq
 simp only [List.length_cons] at hlen2
 obtain ⟨yn, yd, yk⟩ := y
 simp only at hyv hle
 subst hyv
 simp only [labCells, putL, List.set_cons_zero, List.set_cons_succ, List.cons_append, List.nil_append] at H
 have hdv : dnB done v = done[v]'(by omega) := by simp [dnB, hdl, hvn]
 refine Y.k <| Y.q <| Y.qr ?_
 obtain ⟨_, _, e1, hdc⟩ := onesOwn H 7 rfl v (by omega)
 cases e1
 refine Y.j H 2 rfl rfl rfl <| Y.fa rfl rfl <| Y.j H 0 rfl rfl rfl <| Y.v (Y.x rfl rfl rfl rfl) <| Y.v (Y.c (by assumption) rfl) ?_
 refine Y.z ?_
 refine WP.cond rfl (fun hc8 => ?_) (fun hc8 => ?_)
 ·have hnext : ∃ g', g' < k ∧ ∃ (st : NSt) (done : List Bool) (rk : Nat → Int) (D : Int) (x : Nat), SH w0 [] w (⟨g3, 127, [I n, .slice A l.length cap, .slice B on.length cap2]⟩ :: nTail ⟨0, g10, g5, g8, g9, g11, gS, gI, gD, gq⟩ n Ap pots.length capp done st) ∧ NStOk n st ∧ DI (pof pots) l on n s x (fun _ _ => True) st done rk D ∧ 0 ≤ st.p ∧ st.p ≤ 1 + 2000 * ((n : Int) - openN done) ∧ (st.h.length : Int) ≤ st.p ∧ openN done * 2000 + st.h.length ≤ g' :=
   ⟨openN done * 2000 + h'.length, by omega, ⟨st.sts, st.dist, h', st.p, st.A, st.cap, Lo'⟩, done, rk, D, x, H.drop (List.sublist_cons_self _ _), ⟨hok.slen, hok.dlen, hO', hh'⟩, hdi.stale hpm2 rfl (by rw [hdv]; exact hc8), hp1, hp2, by show (h'.length : Int) ≤ st.p; omega, Nat.le_refl _⟩
  refine WP.exit <| XB.hit ?_
  exact ⟨Y.ag, hnext⟩
 obtain ⟨hyd, hdi2⟩ := hdi.fresh hpm2 hmin rfl hvn (by rw [hdv]; exact hc8) (A := st.A) (cap := st.cap) (Lo := Lo') (q := st.p)
 simp only at hyd hdi2
 have hopen := openN_set done v (by omega) (by show dnB done v = false; rw [hdv]; exact hc8)
 have hdx : dnB (done.set v true) v = true := by rw [dnB_set (by omega), if_pos rfl]
 have hbdv := hdi2.bd v hvn hdx
 have hrkv := (hdi2.dn v hvn hdx).2.2
 have hnnv := hdi2.nn v hvn hkv
 have hpv : pof pots v = pots[v]'(by omega) := by simp [pof, hpl, hvn]
 have hpv2 := hpb v (by omega)
 simp only at hbdv hrkv hnnv
 refine Y.k <| Y.qr <| Y.j H 2 rfl rfl rfl <| Y.fa rfl rfl <| Y.j H 0 rfl rfl rfl <| Y.v (Y.x rfl rfl rfl rfl) ?_
 have hpu9 : putL (done.map Bo) (0 + v) [Bo true] = (done.set v true).map Bo := by rw [Nat.zero_add]; exact putL_ones done v true
 refine OPS.store (vs := [Bo true]) 7 _ rfl rfl rfl (size_run rfl) rfl (cB rfl) rfl rfl H rfl (by simp only [List.length_map, hdl]; omega) ?_
 clear H; intro w H
 simp only [List.set_cons_zero, List.set_cons_succ] at H
 rw [hpu9] at H
 refine Y.z ?_
 have H2 : SH w0 [] w (⟨g3, 127, [I n, .slice A l.length cap, .slice B on.length cap2]⟩ :: nLv ⟨g12, g10, g5, g8, g9, g11, gS, gI, gD, gq⟩ n v yd Ap pots.length capp (done.set v true) ⟨st.sts, st.dist, h', st.p, st.A, st.cap, Lo'⟩) := H.reidxT (L := [_, _, _, _, _, _, _, _, _, _]) (L' := [_, _, _, _, _, _, _, _, _, _]) [1, 0, 2, 3, 4, 5, 6, 7, 8, 9] (by decide) rfl
 replace H := H2
 clear H2
 refine Y.r <| Y.v (Y.o H 0 rfl rfl) <| Y.v (Ev.makeFunc) ?_
 generalize hst0 : (⟨st.sts, st.dist, h', st.p, st.A, st.cap, Lo'⟩ : NSt) = st0 at H hdi2
 have hni0 : NI (pof pots) l on n s v (fun i _ => i < 0) (done.set v true) (fun u => if u = v then (n : Int) - openN done else rk u) yd (st.p.toNat + 2 * 0) (h'.length + 2 * 0) st0 := by
  subst hst0
  exact ⟨⟨hok.slen, hok.dlen, hO', hh'⟩, hdi2.pr fun _ _ _ _ _ _ _ h => absurd h (by omega), hyd, ⟨hp1, by show st.p ≤ _; omega⟩, by show (h'.length : Int) ≤ st.p; omega, by show h'.length ≤ _; omega⟩
 generalize hrk : (fun u => if u = v then (n : Int) - openN done else rk u) = rk2 at hni0
 have hfr : ∀ g ∈ (nLv ⟨g12, g10, g5, g8, g9, g11, gS, gI, gD, gq⟩ n v yd Ap pots.length capp (done.set v true) st0).map (·.g), w0.heap.size ≤ g := fun g hg => H.fresh g (List.mem_cons_of_mem _ hg)
 have hA := hz.off (fun _ => by simp [arcCells]) hfr
 have hB := ho.off hfr
 have hP := hp.off hfr
 have hpw : IntsAt w Ap pots := hp.sh H
 have hvis : ∀ (i : Nat) (fw : Bool) (a b : Nat) (r cost : Int) (Pr : Nat → Bool → Prop) (mp mh : Nat) (s' : NSt) (w1 : World), NI (pof pots) l on n s v Pr (done.set v true) rk2 yd mp mh s' → REdge (pof pots) l on i fw a b r (cost + pots.getD a 0 - pots.getD b 0) → a < n → b < n → mp ≤ 1000000 → mh ≤ 1000000 → -65536 ≤ cost → cost ≤ 65536 →
   SH w ((nLv ⟨g12, g10, g5, g8, g9, g11, gS, gI, gD, gq⟩ n v yd Ap pots.length capp (done.set v true) st0).map (·.g)) w1 (nLv ⟨g12, g10, g5, g8, g9, g11, gS, gI, gD, gq⟩ n v yd Ap pots.length capp (done.set v true) s') →
   SH w1 ((nLv ⟨g12, g10, g5, g8, g9, g11, gS, gI, gD, gq⟩ n v yd Ap pots.length capp (done.set v true) s').map (·.g)) w1 (nLv ⟨g12, g10, g5, g8, g9, g11, gS, gI, gD, gq⟩ n v yd Ap pots.length capp (done.set v true) s') →
   Calls Tryz.prog 78 ([I a, I b, I i, I r, I cost, .bool fw] ++ [Value.pointer (some ⟨g12, 0, none⟩), Value.pointer (some ⟨g10, 0, none⟩), Value.pointer (some ⟨g5, 0, none⟩), Value.pointer (some ⟨g8, 0, none⟩), Value.pointer (some ⟨g9, 0, none⟩), Value.pointer (some ⟨g11, 0, none⟩)]).toArray w1
    fun e w' => e = .returned (.tuple #[]) ∧ ∃ s'', NI (pof pots) l on n s v (fun j f => Pr j f ∨ (j = i ∧ f = fw)) (done.set v true) rk2 yd (mp + 1) (mh + 1) s'' ∧ SH w1 ((nLv ⟨g12, g10, g5, g8, g9, g11, gS, gI, gD, gq⟩ n v yd Ap pots.length capp (done.set v true) s').map (·.g)) w' (nLv ⟨g12, g10, g5, g8, g9, g11, gS, gI, gD, gq⟩ n v yd Ap pots.length capp (done.set v true) s'') := by
  intro i fw a b r cost Pr mp mh s' w1 hni hE ha hb h1 h2 h3 h4 Hw H1
  have hn1 := hni.p1
  have hn2 := hni.h2
  have hc := nearVisit ⟨g12, g10, g5, g8, g9, g11, gS, gI, gD, gq⟩ n v a b i yd r cost fw Ap capp pots (done.set v true) s' w1 _ hni.ok hpl (by simp [hdl]) ha hb
   (fun k hk => by
    obtain ⟨b', o', q1, q2⟩ := hpw k hk
    exact ⟨b', o', q1, Hw.ldS q2 (hP (List.ne_nil_of_length_pos (by omega)) b' o' q1)⟩)
   (fun k hk => by have := hpb k hk; omega) (by omega) (by omega) (by omega) (by omega) (Off.later hpw hP Hw) (by rw [hpl] at H1; exact H1)
  refine hc.mono fun e w' ⟨he, s'', hV, hok'', H''⟩ => ⟨he, s'', ⟨hok'', ?_, ?_, ?_, ?_, ?_⟩, by rw [hpl]; rw [hpl] at H''; exact H''⟩
  ·exact hni.di.visit hO hE hvn hdx hni.hD hb rfl (by simp [pof]) (by simp [pof]) h4 (by rw [← hni.hD]; exact hV)
  ·rw [hV.dist_x hdx (by rw [hni.ok.dlen]; exact hb)]; exact hni.hD
  ·rcases hV.cnt with ⟨q1, q2⟩ | ⟨q1, q2⟩ <;> omega
  ·have := hni.h1
   rcases hV.cnt with ⟨q1, q2⟩ | ⟨q1, q2⟩ <;> omega
  ·rcases hV.cnt with ⟨q1, q2⟩ | ⟨q1, q2⟩ <;> omega
 have hNF : ∀ (i : Nat) (h : i < l.length), ∃ a b : Nat, a < n ∧ b < n ∧ l[i].f = a ∧ l[i].t = b ∧ (0 ≤ l[i].cap ∧ l[i].cap ≤ 65536) ∧ (0 ≤ l[i].cost ∧ l[i].cost ≤ 65536) := fun i h => by
  obtain ⟨⟨q1, q2⟩, q3, q4⟩ := hN.nodes l[i] (List.getElem_mem h)
  have q5 := hN.caps l[i] (List.getElem_mem h)
  obtain ⟨a, ha⟩ := Int.eq_ofNat_of_zero_le q1
  obtain ⟨b, hb⟩ := Int.eq_ofNat_of_zero_le q3
  exact ⟨a, b, by omega, by omega, ha, hb, q5⟩
 have hpfi : ∀ (i : Nat) (h : i < l.length) (a b : Nat), l[i].f = a → l[i].t = b → rc (pof pots) l[i] = l[i].cost + pots.getD a 0 - pots.getD b 0 := fun i h a b ha hb => by
  unfold rc; rw [ha, hb]; simp [pof]
 have hll := hN.len
 have hmp : st.p.toNat ≤ 200000 := by omega
 have hcall := flowEach2 (fun s' => nLv ⟨g12, g10, g5, g8, g9, g11, gS, gI, gD, gq⟩ n v yd Ap pots.length capp (done.set v true) s') ((nLv ⟨g12, g10, g5, g8, g9, g11, gS, gI, gD, gq⟩ n v yd Ap pots.length capp (done.set v true) st0).map (·.g)) (fun j s' => NI (pof pots) l on n s v (fun i _ => i < j) (done.set v true) rk2 yd (st.p.toNat + 2 * j) (h'.length + 2 * j) s') (fun j s' => NI (pof pots) l on n s v (fun i fw => i < j ∨ (i = j ∧ fw = true)) (done.set v true) rk2 yd (st.p.toNat + 2 * j + 1) (h'.length + 2 * j + 1) s') 78 [.pointer (some ⟨g12, 0, none⟩), .pointer (some ⟨g10, 0, none⟩), .pointer (some ⟨g5, 0, none⟩), .pointer (some ⟨g8, 0, none⟩), .pointer (some ⟨g9, 0, none⟩), .pointer (some ⟨g11, 0, none⟩)] n A B l on cap cap2 st0 w rfl (hz.sh H) hA (ho.sh H) hB hlen (by omega) (fun i h => by obtain ⟨_, _, _, _, _, _, q1, q2⟩ := hNF i h; omega) (fun i h => by have q1 := hV.bd i (by omega) h; obtain ⟨_, _, _, _, _, _, q2, _⟩ := hNF i (by omega); omega) rfl (fun i h h2 s' w1 hni hlt Hw H1 => by
  obtain ⟨a, b, ha, hb, hfa, htb, hca, hco⟩ := hNF i h
  have hE : REdge (pof pots) l on i true a b (l[i].cap - on[i]) (l[i].cost + pots.getD a 0 - pots.getD b 0) := ⟨h, h2, fun _ => ⟨hfa, htb, rfl, hlt, (hpfi i h a b hfa htb).symm⟩, fun q => by cases q⟩
  have hc := hvis i true a b (l[i].cap - on[i]) l[i].cost _ _ _ s' w1 hni hE ha hb (by omega) (by omega) (by omega) (by omega) Hw H1
  rw [hfa, htb]
  exact hc) (fun i h h2 s' hni hlt => hni.skip (fun j fw u v r w hE hp => by
   rcases hp with hp | ⟨rfl, rfl⟩
   ·exact hp
   ·obtain ⟨_, _, q, _⟩ := hE; exact absurd (q rfl).2.2.2.1 hlt) (by omega) (by omega)) (fun i h h2 s' w1 hni hlt Hw H1 => by
  obtain ⟨a, b, ha, hb, hfa, htb, hca, hco⟩ := hNF i h
  have hE : REdge (pof pots) l on i false b a on[i] (-l[i].cost + pots.getD b 0 - pots.getD a 0) := ⟨h, h2, (fun q => by cases q), fun _ => ⟨htb, hfa, rfl, hlt, by have := hpfi i h a b hfa htb; omega⟩⟩
  have hc := hvis i false b a on[i] (-l[i].cost) _ _ _ s' w1 hni hE hb ha (by omega) (by omega) (by omega) (by omega) Hw H1
  rw [hfa, htb]
  refine hc.mono fun e w' ⟨he, s'', hn', H'⟩ => ⟨he, s'', hn'.skip (fun j fw _ _ _ _ _ hp => ?_) (by omega) (by omega), H'⟩
  rcases Nat.lt_succ_iff_lt_or_eq.1 hp with hp | rfl
  ·exact .inl (.inl hp)
  ·cases fw with
   | true => exact .inl (.inr ⟨rfl, rfl⟩)
   | false => exact .inr ⟨rfl, rfl⟩) (fun i h h2 s' hni hlt => hni.skip (fun j fw u v r w hE hp => by
   rcases Nat.lt_succ_iff_lt_or_eq.1 hp with hp | rfl
   ·exact .inl hp
   ·cases fw with
    | true => exact .inr ⟨rfl, rfl⟩
    | false => obtain ⟨_, _, _, q⟩ := hE; exact absurd (q rfl).2.2.2.1 hlt) (by omega) (by omega)) hni0 (H.restart (List.sublist_cons_self _ _))
 refine OPS.call (d := some 56) rfl rfl rfl (EvC.func (fun_run rfl)) (hcall) ?_
 rintro _ w ⟨rfl, st2, hni2, Hc⟩
 refine ⟨_, rfl, ?_⟩
 replace H := SH.call (L1 := [_]) (Lv := nLv ⟨g12, g10, g5, g8, g9, g11, gS, gI, gD, gq⟩ n v yd Ap pots.length capp (done.set v true) st0) H Hc
 clear Hc
 have hnext : ∃ g', g' < k ∧ ∃ (st : NSt) (done : List Bool) (rk : Nat → Int) (D : Int) (x : Nat), SH w0 [] w (⟨g3, 127, [I n, .slice A l.length cap, .slice B on.length cap2]⟩ :: nTail ⟨0, g10, g5, g8, g9, g11, gS, gI, gD, gq⟩ n Ap pots.length capp done st) ∧ NStOk n st ∧ DI (pof pots) l on n s x (fun _ _ => True) st done rk D ∧ 0 ≤ st.p ∧ st.p ≤ 1 + 2000 * ((n : Int) - openN done) ∧ (st.h.length : Int) ≤ st.p ∧ openN done * 2000 + st.h.length ≤ g' := by
  have q1 := hni2.p1
  have q2 := hni2.h1
  have q3 := hni2.h2
  exact ⟨openN (done.set v true) * 2000 + st2.h.length, by omega, st2, done.set v true, rk2, yd, v, H.drop (((List.sublist_cons_self _ _)).cons_cons _), hni2.ok, hni2.di.pr (fun i _ _ _ _ _ hE _ => hE.1), q1.1, by omega, q2, Nat.le_refl _⟩
 refine Y.z ?_
 exact ⟨Y.ag, hnext⟩
end Go.Proofs.YthobaaefdehoiaaGreat.Flo
