/-
 jbO: nearest.
-/
import Derived.Test.YtgcokllbophkkaaGreatFQ1
import Derived.Test.YtgcokllbophkkaaGreatPtr
import Derived.Test.YtgcokllbophkkaaGreatT22
set_option linter.all false
set_option maxHeartbeats 4000000
namespace Go.Proofs.YtgcokllbophkkaaGreat.Flo
open Go Go.W Go.RowKit
def jls (g : NAdr) (n : Nat) (Ap : Option Addr) (np capp : Nat) (done : List Bool) (s : NSt) : List Blk :=
 [⟨g.gdo, 154, [.slice (some ⟨g.gD, 0, none⟩) n n]⟩, ⟨g.gpo, 32, [.slice Ap np capp]⟩, ⟨g.gst, 175, [.slice (some ⟨g.gS, 0, none⟩) n n]⟩, ⟨g.gdi, 32, [.slice (some ⟨g.gI, 0, none⟩) n n]⟩, ⟨g.gwa, 198, [.pointer (some ⟨g.gq, 0, none⟩)]⟩,
  ⟨g.gD, 4, done.map Bo⟩, ⟨g.gS, 179, s.sts.flatMap y2⟩, ⟨g.gI, 3, s.dist.map I⟩] ++ qLv g.gq s.A s.cap s.h s.p s.Lo
abbrev pof (pots : List Int) : Int → Int := fun u => pots.getD u.toNat 0
structure NI (p : Int → Int) (l : List Arc) (on : List Int) (n s x : Nat) (Pr : Nat → Bool → Prop) (done : List Bool) (rk : Nat → Int) (D : Int) (mp mh : Nat) (st : NSt) : Prop where
 ok : jg3 n st
 di : DI p l on n s x Pr st done rk D
 hD : D = dAt st.dist x
 p1 : 0 ≤ st.p ∧ st.p ≤ mp
 h1 : (st.h.length : Int) ≤ st.p
 h2 : st.h.length ≤ mh
theorem NI.skip {p : Int → Int} {l : List Arc} {on : List Int} {n s x : Nat} {Pr Pr' : Nat → Bool → Prop} {done : List Bool} {rk : Nat → Int} {D : Int} {mp mh mp' mh' : Nat} {st : NSt} (h : NI p l on n s x Pr done rk D mp mh st)
  (hp : ∀ i fw u v r w, jaZ p l on i fw u v r w → Pr' i fw → Pr i fw) (h1 : mp ≤ mp') (h2 : mh ≤ mh') : NI p l on n s x Pr' done rk D mp' mh' st :=
 ⟨h.ok, h.di.pr hp, h.hD, ⟨h.p1.1, by have := h.p1.2; omega⟩, h.h1, by have := h.h2; omega⟩
theorem jfI.dist_x {x : Nat} {xd : Int} {pots : List Int} {done : List Bool} {a b arc : Nat} {room cost : Int} {fwd : Bool} {s s' : NSt} (h : jfI x xd pots done a b arc room cost fwd s s') (hx : dnB done x = true) (hb : b < s.dist.length) : dAt s'.dist x = dAt s.dist x := by
 unfold jfI at h
 split at h
 ·rename_i hc
  unfold jec at hc
  simp only [Bool.and_eq_true, Bool.not_eq_true'] at hc
  have hne : b ≠ x := fun he => by
   have h1 : dnB done b = false := hc.1.2
   rw [he, hx] at h1; cases h1
  rw [h.2.1, jbI hb, if_neg hne]
 ·rw [h.2.1]
theorem jfI.cnt {x : Nat} {xd : Int} {pots : List Int} {done : List Bool} {a b arc : Nat} {room cost : Int} {fwd : Bool} {s s' : NSt} (h : jfI x xd pots done a b arc room cost fwd s s') : (s'.p = s.p ∧ s'.h.length = s.h.length) ∨ (s'.p = s.p + 1 ∧ s'.h.length = s.h.length + 1) := by
 unfold jfI at h
 split at h
 ·exact .inr ⟨h.2.2.2, by rw [h.2.2.1.length_eq]; simp⟩
 ·exact .inl ⟨h.2.2.2, by rw [h.2.2.1]⟩
abbrev nS (g n : Nat) : Blk := ⟨g, 179, mkL n (y2 default)⟩
abbrev nI (g n : Nat) : Blk := ⟨g, 3, mkL n [I 0]⟩
abbrev nD (g n : Nat) : Blk := ⟨g, 4, mkL n [Bo false]⟩
abbrev nQ (t g : Nat) (A : Option Addr) (n : Nat) : Blk := ⟨g, t, [.slice A n n]⟩
abbrev nP (t g a n : Nat) : Blk := ⟨g, t, [.slice (some ⟨a, 0, none⟩) n n]⟩
abbrev nO (g5 g3 n : Nat) (A B Ap : Option Addr) (l o p cap cap2 capp : Nat) : List Blk := [⟨g5, 32, [.slice Ap p capp]⟩, ⟨g3, 174, [I n, .slice A l cap, .slice B o cap2]⟩]
theorem jhz (n s : Nat) (A B Ap : Option Addr) (l : List Arc) (on pots : List Int) (cap cap2 capp : Nat) (w0 : World) (hs : s < n) (hN : NetOk n l) (hlen : on.length = l.length) (hpl : pots.length = n)
  (hz : ArcsAt w0 A l) (ho : k9 w0 B on) (hp : k9 w0 Ap pots) (hV : jaP l on) (hO : OptPot (fun u => pots.getD u.toNat 0) l on) (hp0 : pots.getD s 0 = 0) (hpb : ∀ i (h : i < pots.length), 0 ≤ pots[i] ∧ pots[i] ≤ 1000000000000) :
  Calls Tryz.prog 114 #[.agg #[I n, .slice A l.length cap, .slice B on.length cap2], I s, .slice Ap pots.length capp] w0
   fun e w' => ∃ (gS gI : Nat) (sts : List Step) (dist : List Int) (rk : Nat → Int), e = .returned (.tuple #[.slice (some ⟨gS, 0, none⟩) n n, .slice (some ⟨gI, 0, none⟩) n n]) ∧ jhO (fun u => pots.getD u.toNat 0) l on n s sts dist rk ∧ SH w0 [] w' [⟨gS, 179, sts.flatMap y2⟩, ⟨gI, 3, dist.map I⟩] := by
 have H := SH.refl w0
 have hn2 := hN.n2
 refine Calls.ofWP Tryz.func114 rfl Tryz.results114 Tryz.ntmps114 rfl<|Y.qr<|Y.bx (cA rfl) H ?_
 clear H; intro g3 w H
 refine OPS.box rfl rfl rfl rfl (cS rfl) H ?_
 clear H; intro g5 w H
 refine Y.aS rfl<|Y.aS rfl<|Y.z<|Y.q ?_
 refine WP.rheldC [8, 9, 10, 14, 15, 16, 17, 18, 19, 20, 21, 22, 23, 24, 25] (fun u w' => ∃ (g17 g21 g25 g8 g9 g10 : Nat), u 8 = .pointer (some ⟨g8, 0, none⟩) ∧ u 9 = .pointer (some ⟨g9, 0, none⟩) ∧ u 10 = .pointer (some ⟨g10, 0, none⟩) ∧ SH w0 [] w' [⟨g17, 179, mkL n (y2 default)⟩, ⟨g21, 3, mkL n [I 0]⟩, ⟨g25, 4, mkL n [Bo false]⟩, ⟨g8, 175, [.slice (some ⟨g17, 0, none⟩) n n]⟩, ⟨g9, 32, [.slice (some ⟨g21, 0, none⟩) n n]⟩, ⟨g10, 154, [.slice (some ⟨g25, 0, none⟩) n n]⟩, ⟨g5, 32, [.slice Ap pots.length capp]⟩, ⟨g3, 174, [I n, .slice A l.length cap, .slice B on.length cap2]⟩]) mixed H ?_ ?_
 ·clear H; intro w hbw1 H
  refine Y.tf 0 H rfl<|Y.tf 1 H rfl<|Y.tl 2 H 1 rfl<|Y.tf 4 H rfl<|Y.tf 5 H rfl<|Y.tl 6 H 1 rfl<|Y.tf 8 H rfl<|Y.tf 9 H rfl<|Y.tl 10 H 1 rfl<|OPH.named (f' := 9) (ls' := (bb 18 1911)) rfl (by kernel_rfl) ?_
  intro Q hQ
  generalize he0 : (upd _ _ _ : Env) = e0
  have f16 : e0 16 = I n := by rw [← he0]; rfl
  have f20 : e0 20 = I n := by rw [← he0]; rfl
  have f24 : e0 24 = I n := by rw [← he0]; rfl
  have s70 : ∀ g17 g21 g25 g8 g9 g10 : Nat, DQ Q 0 (bb 18 262143) w0 [] ([nS g17 n, nI g21 n, nD g25 n, nP 175 g8 g17 n, nP 32 g9 g21 n, nP 154 g10 g25 n] ++ nO g5 g3 n A B Ap l.length on.length pots.length cap cap2 capp) (upd (upd (upd (upd (upd (upd e0 17 (vS g17 n)) 21 (vS g21 n)) 25 (vS g25 n)) 8 (vP g8)) 9 (vP g9)) 10 (vP g10)) := by
   intro g17 g21 g25 g8 g9 g10 w H; rw [hQ]
   refine Y.dn ?_
   exact ⟨(by (repeat refine Agree.upd rfl ?_); rw [← he0]; exact Y.ag), g17, g21, g25, g8, g9, g10, rfl, rfl, rfl, H⟩
  have s69 : ∀ g17 g21 g25 g8 g9 g10 : Nat, DQ Q 1 (bb 18 131071) w0 [] ([nS g17 n, nI g21 n, nD g25 n, nP 175 g8 g17 n, nP 32 g9 g21 n, nQ 154 g10 none 0] ++ nO g5 g3 n A B Ap l.length on.length pots.length cap cap2 capp) (upd (upd (upd (upd (upd (upd e0 17 (vS g17 n)) 21 (vS g21 n)) 25 (vS g25 n)) 8 (vP g8)) 9 (vP g9)) 10 (vP g10)) := by
   intro g17 g21 g25 g8 g9 g10 w H; rw [hQ]
   refine Y.A1 17 rfl rfl<|Y.st 5 H rfl (cS rfl) rfl ?_
   intro w H
   refine OPS.nil ⟨H.rx [6, 7], ?_⟩
   rw [← hQ]; exact qd (s70 g17 g21 g25 g8 g9 g10 w (H))
  clear s70
  have s67 : ∀ g17 g21 g25 g8 g9 g10 : Nat, DQ Q 2 (bb 18 65535) w0 [] ([nS g17 n, nI g21 n, nD g25 n, nP 175 g8 g17 n, nQ 32 g9 none 0, nQ 154 g10 none 0] ++ nO g5 g3 n A B Ap l.length on.length pots.length cap cap2 capp) (upd (upd (upd (upd (upd (upd e0 17 (vS g17 n)) 21 (vS g21 n)) 25 (vS g25 n)) 8 (vP g8)) 9 (vP g9)) 10 (vP g10)) := by
   intro g17 g21 g25 g8 g9 g10 w H; rw [hQ]
   refine Y.A1 16 rfl rfl<|Y.st 4 H rfl (cS rfl) rfl ?_
   intro w H
   refine OPS.nil ⟨H.rx [6, 7], ?_⟩
   rw [← hQ]; exact qd (s69 g17 g21 g25 g8 g9 g10 w (H))
  have s68 : ∀ g17 g21 g8 g9 g10 : Nat, DQ Q 2 (bb 18 129023) w0 [] ([nS g17 n, nI g21 n, nP 175 g8 g17 n, nP 32 g9 g21 n, nQ 154 g10 none 0] ++ nO g5 g3 n A B Ap l.length on.length pots.length cap cap2 capp) (upd (upd (upd (upd (upd e0 17 (vS g17 n)) 21 (vS g21 n)) 8 (vP g8)) 9 (vP g9)) 10 (vP g10)) := by
   intro g17 g21 g8 g9 g10 w H; rw [hQ]
   refine Y.A1 11 rfl rfl<|Y.M H rfl ?_
   intro g25 w H
   refine OPS.nil ⟨H.rx [6, 7], ?_⟩
   rw [← hQ, uc 10 25, uc 9 25, uc 8 25]; exact qd (s69 g17 g21 g25 g8 g9 g10 w (H.rx [1, 2, 0, 3, 4, 5, 6, 7]))
  clear s69
  have s64 : ∀ g17 g21 g25 g8 g9 g10 : Nat, DQ Q 3 (bb 18 32767) w0 [] ([nS g17 n, nI g21 n, nD g25 n, nQ 175 g8 none 0, nQ 32 g9 none 0, nQ 154 g10 none 0] ++ nO g5 g3 n A B Ap l.length on.length pots.length cap cap2 capp) (upd (upd (upd (upd (upd (upd e0 17 (vS g17 n)) 21 (vS g21 n)) 25 (vS g25 n)) 8 (vP g8)) 9 (vP g9)) 10 (vP g10)) := by
   intro g17 g21 g25 g8 g9 g10 w H; rw [hQ]
   refine Y.A1 15 rfl rfl<|Y.st 3 H rfl (cS rfl) rfl ?_
   intro w H
   refine OPS.nil ⟨H.rx [6, 7], ?_⟩
   rw [← hQ]; exact qd (s67 g17 g21 g25 g8 g9 g10 w (H))
  have s65 : ∀ g17 g21 g8 g9 g10 : Nat, DQ Q 3 (bb 18 63487) w0 [] ([nS g17 n, nI g21 n, nP 175 g8 g17 n, nQ 32 g9 none 0, nQ 154 g10 none 0] ++ nO g5 g3 n A B Ap l.length on.length pots.length cap cap2 capp) (upd (upd (upd (upd (upd e0 17 (vS g17 n)) 21 (vS g21 n)) 8 (vP g8)) 9 (vP g9)) 10 (vP g10)) := by
   intro g17 g21 g8 g9 g10 w H; rw [hQ]
   refine Y.A2 11 16 rfl rfl rfl ?_ ?_
   ·refine Y.M H rfl ?_
    intro g25 w H
    refine OPS.nil ⟨H.rx [6, 7], ?_⟩
    rw [← hQ, uc 10 25, uc 9 25, uc 8 25]; exact qd (s67 g17 g21 g25 g8 g9 g10 w (H.rx [1, 2, 0, 3, 4, 5, 6, 7]))
   ·refine Y.st 3 H rfl (cS rfl) rfl ?_
    intro w H
    refine OPS.nil ⟨H.rx [5, 6], ?_⟩
    rw [← hQ]; exact qd (s68 g17 g21 g8 g9 g10 w (H))
  have s66 : ∀ g17 g25 g8 g9 g10 : Nat, DQ Q 3 (bb 18 65407) w0 [] ([nS g17 n, nD g25 n, nP 175 g8 g17 n, nQ 32 g9 none 0, nQ 154 g10 none 0] ++ nO g5 g3 n A B Ap l.length on.length pots.length cap cap2 capp) (upd (upd (upd (upd (upd e0 17 (vS g17 n)) 25 (vS g25 n)) 8 (vP g8)) 9 (vP g9)) 10 (vP g10)) := by
   intro g17 g25 g8 g9 g10 w H; rw [hQ]
   refine Y.A1 7 rfl rfl<|Y.M H rfl ?_
   intro g21 w H
   refine OPS.nil ⟨H.rx [6, 7], ?_⟩
   rw [← hQ, uc 10 21, uc 9 21, uc 8 21, uc 25 21]; exact qd (s67 g17 g21 g25 g8 g9 g10 w (H.rx [1, 0, 2, 3, 4, 5, 6, 7]))
  clear s67 s68
  have s57 : ∀ g17 g21 g25 g8 g9 : Nat, DQ Q 4 (bb 18 16383) w0 [] ([nS g17 n, nI g21 n, nD g25 n, nQ 175 g8 none 0, nQ 32 g9 none 0] ++ nO g5 g3 n A B Ap l.length on.length pots.length cap cap2 capp) (upd (upd (upd (upd (upd e0 17 (vS g17 n)) 21 (vS g21 n)) 25 (vS g25 n)) 8 (vP g8)) 9 (vP g9)) := by
   intro g17 g21 g25 g8 g9 w H; rw [hQ]
   refine Y.A1 14 rfl rfl<|Y.al H rfl rfl ?_
   intro g10 w H
   refine OPS.nil ⟨H.rx [6, 7], ?_⟩
   rw [← hQ]; exact qd (s64 g17 g21 g25 g8 g9 g10 w (H.rx [1, 2, 3, 4, 5, 0, 6, 7]))
  have s58 : ∀ g17 g21 g25 g8 g10 : Nat, DQ Q 4 (bb 18 24575) w0 [] ([nS g17 n, nI g21 n, nD g25 n, nQ 175 g8 none 0, nQ 154 g10 none 0] ++ nO g5 g3 n A B Ap l.length on.length pots.length cap cap2 capp) (upd (upd (upd (upd (upd e0 17 (vS g17 n)) 21 (vS g21 n)) 25 (vS g25 n)) 8 (vP g8)) 10 (vP g10)) := by
   intro g17 g21 g25 g8 g10 w H; rw [hQ]
   refine Y.A1 13 rfl rfl<|Y.al H rfl rfl ?_
   intro g9 w H
   refine OPS.nil ⟨H.rx [6, 7], ?_⟩
   rw [← hQ, uc 10 9]; exact qd (s64 g17 g21 g25 g8 g9 g10 w (H.rx [1, 2, 3, 4, 0, 5, 6, 7]))
  have s59 : ∀ g17 g21 g25 g9 g10 : Nat, DQ Q 4 (bb 18 28671) w0 [] ([nS g17 n, nI g21 n, nD g25 n, nQ 32 g9 none 0, nQ 154 g10 none 0] ++ nO g5 g3 n A B Ap l.length on.length pots.length cap cap2 capp) (upd (upd (upd (upd (upd e0 17 (vS g17 n)) 21 (vS g21 n)) 25 (vS g25 n)) 9 (vP g9)) 10 (vP g10)) := by
   intro g17 g21 g25 g9 g10 w H; rw [hQ]
   refine Y.A1 12 rfl rfl<|Y.al H rfl rfl ?_
   intro g8 w H
   refine OPS.nil ⟨H.rx [6, 7], ?_⟩
   rw [← hQ, uc 10 8, uc 9 8]; exact qd (s64 g17 g21 g25 g8 g9 g10 w (H.rx [1, 2, 3, 0, 4, 5, 6, 7]))
  have s60 : ∀ g17 g21 g8 g9 g10 : Nat, DQ Q 4 (bb 18 30719) w0 [] ([nS g17 n, nI g21 n, nQ 175 g8 none 0, nQ 32 g9 none 0, nQ 154 g10 none 0] ++ nO g5 g3 n A B Ap l.length on.length pots.length cap cap2 capp) (upd (upd (upd (upd (upd e0 17 (vS g17 n)) 21 (vS g21 n)) 8 (vP g8)) 9 (vP g9)) 10 (vP g10)) := by
   intro g17 g21 g8 g9 g10 w H; rw [hQ]
   refine Y.A2 11 15 rfl rfl rfl ?_ ?_
   ·refine Y.M H rfl ?_
    intro g25 w H
    refine OPS.nil ⟨H.rx [6, 7], ?_⟩
    rw [← hQ, uc 10 25, uc 9 25, uc 8 25]; exact qd (s64 g17 g21 g25 g8 g9 g10 w (H.rx [1, 2, 0, 3, 4, 5, 6, 7]))
   ·refine Y.st 2 H rfl (cS rfl) rfl ?_
    intro w H
    refine OPS.nil ⟨H.rx [5, 6], ?_⟩
    rw [← hQ]; exact qd (s65 g17 g21 g8 g9 g10 w (H))
  have s61 : ∀ g17 g25 g8 g9 g10 : Nat, DQ Q 4 (bb 18 32639) w0 [] ([nS g17 n, nD g25 n, nQ 175 g8 none 0, nQ 32 g9 none 0, nQ 154 g10 none 0] ++ nO g5 g3 n A B Ap l.length on.length pots.length cap cap2 capp) (upd (upd (upd (upd (upd e0 17 (vS g17 n)) 25 (vS g25 n)) 8 (vP g8)) 9 (vP g9)) 10 (vP g10)) := by
   intro g17 g25 g8 g9 g10 w H; rw [hQ]
   refine Y.A2 7 15 rfl rfl rfl ?_ ?_
   ·refine Y.M H rfl ?_
    intro g21 w H
    refine OPS.nil ⟨H.rx [6, 7], ?_⟩
    rw [← hQ, uc 10 21, uc 9 21, uc 8 21, uc 25 21]; exact qd (s64 g17 g21 g25 g8 g9 g10 w (H.rx [1, 0, 2, 3, 4, 5, 6, 7]))
   ·refine Y.st 2 H rfl (cS rfl) rfl ?_
    intro w H
    refine OPS.nil ⟨H.rx [5, 6], ?_⟩
    rw [← hQ]; exact qd (s66 g17 g25 g8 g9 g10 w (H))
  have s62 : ∀ g17 g8 g9 g10 : Nat, DQ Q 4 (bb 18 63359) w0 [] ([nS g17 n, nP 175 g8 g17 n, nQ 32 g9 none 0, nQ 154 g10 none 0] ++ nO g5 g3 n A B Ap l.length on.length pots.length cap cap2 capp) (upd (upd (upd (upd e0 17 (vS g17 n)) 8 (vP g8)) 9 (vP g9)) 10 (vP g10)) := by
   intro g17 g8 g9 g10 w H; rw [hQ]
   refine Y.A2 7 11 rfl rfl rfl ?_ ?_
   ·refine Y.M H rfl ?_
    intro g21 w H
    refine OPS.nil ⟨H.rx [5, 6], ?_⟩
    rw [← hQ, uc 10 21, uc 9 21, uc 8 21]; exact qd (s65 g17 g21 g8 g9 g10 w (H.rx [1, 0, 2, 3, 4, 5, 6]))
   ·refine Y.M H rfl ?_
    intro g25 w H
    refine OPS.nil ⟨H.rx [5, 6], ?_⟩
    rw [← hQ, uc 10 25, uc 9 25, uc 8 25]; exact qd (s66 g17 g25 g8 g9 g10 w (H.rx [1, 0, 2, 3, 4, 5, 6]))
  have s63 : ∀ g21 g25 g8 g9 g10 : Nat, DQ Q 4 (bb 18 32759) w0 [] ([nI g21 n, nD g25 n, nQ 175 g8 none 0, nQ 32 g9 none 0, nQ 154 g10 none 0] ++ nO g5 g3 n A B Ap l.length on.length pots.length cap cap2 capp) (upd (upd (upd (upd (upd e0 21 (vS g21 n)) 25 (vS g25 n)) 8 (vP g8)) 9 (vP g9)) 10 (vP g10)) := by
   intro g21 g25 g8 g9 g10 w H; rw [hQ]
   refine Y.A1 3 rfl rfl<|Y.M H rfl ?_
   intro g17 w H
   refine OPS.nil ⟨H.rx [6, 7], ?_⟩
   rw [← hQ, uc 10 17, uc 9 17, uc 8 17, uc 25 17, uc 21 17]; exact qd (s64 g17 g21 g25 g8 g9 g10 w (H.rx [0, 1, 2, 3, 4, 5, 6, 7]))
  clear s64 s65 s66
  have s42 : ∀ g17 g21 g25 g8 : Nat, DQ Q 5 (bb 18 8191) w0 [] ([nS g17 n, nI g21 n, nD g25 n, nQ 175 g8 none 0] ++ nO g5 g3 n A B Ap l.length on.length pots.length cap cap2 capp) (upd (upd (upd (upd e0 17 (vS g17 n)) 21 (vS g21 n)) 25 (vS g25 n)) 8 (vP g8)) := by
   intro g17 g21 g25 g8 w H; rw [hQ]
   refine Y.A2 13 14 rfl rfl rfl ?_ ?_
   ·refine Y.al H rfl rfl ?_
    intro g9 w H
    refine OPS.nil ⟨H.rx [5, 6], ?_⟩
    rw [← hQ]; exact qd (s57 g17 g21 g25 g8 g9 w (H.rx [1, 2, 3, 4, 0, 5, 6]))
   ·refine Y.al H rfl rfl ?_
    intro g10 w H
    refine OPS.nil ⟨H.rx [5, 6], ?_⟩
    rw [← hQ]; exact qd (s58 g17 g21 g25 g8 g10 w (H.rx [1, 2, 3, 4, 0, 5, 6]))
  have s43 : ∀ g17 g21 g25 g9 : Nat, DQ Q 5 (bb 18 12287) w0 [] ([nS g17 n, nI g21 n, nD g25 n, nQ 32 g9 none 0] ++ nO g5 g3 n A B Ap l.length on.length pots.length cap cap2 capp) (upd (upd (upd (upd e0 17 (vS g17 n)) 21 (vS g21 n)) 25 (vS g25 n)) 9 (vP g9)) := by
   intro g17 g21 g25 g9 w H; rw [hQ]
   refine Y.A2 12 14 rfl rfl rfl ?_ ?_
   ·refine Y.al H rfl rfl ?_
    intro g8 w H
    refine OPS.nil ⟨H.rx [5, 6], ?_⟩
    rw [← hQ, uc 9 8]; exact qd (s57 g17 g21 g25 g8 g9 w (H.rx [1, 2, 3, 0, 4, 5, 6]))
   ·refine Y.al H rfl rfl ?_
    intro g10 w H
    refine OPS.nil ⟨H.rx [5, 6], ?_⟩
    rw [← hQ]; exact qd (s59 g17 g21 g25 g9 g10 w (H.rx [1, 2, 3, 4, 0, 5, 6]))
  have s44 : ∀ g17 g21 g25 g10 : Nat, DQ Q 5 (bb 18 20479) w0 [] ([nS g17 n, nI g21 n, nD g25 n, nQ 154 g10 none 0] ++ nO g5 g3 n A B Ap l.length on.length pots.length cap cap2 capp) (upd (upd (upd (upd e0 17 (vS g17 n)) 21 (vS g21 n)) 25 (vS g25 n)) 10 (vP g10)) := by
   intro g17 g21 g25 g10 w H; rw [hQ]
   refine Y.A2 12 13 rfl rfl rfl ?_ ?_
   ·refine Y.al H rfl rfl ?_
    intro g8 w H
    refine OPS.nil ⟨H.rx [5, 6], ?_⟩
    rw [← hQ, uc 10 8]; exact qd (s58 g17 g21 g25 g8 g10 w (H.rx [1, 2, 3, 0, 4, 5, 6]))
   ·refine Y.al H rfl rfl ?_
    intro g9 w H
    refine OPS.nil ⟨H.rx [5, 6], ?_⟩
    rw [← hQ, uc 10 9]; exact qd (s59 g17 g21 g25 g9 g10 w (H.rx [1, 2, 3, 0, 4, 5, 6]))
  have s45 : ∀ g17 g21 g8 g9 : Nat, DQ Q 5 (bb 18 14335) w0 [] ([nS g17 n, nI g21 n, nQ 175 g8 none 0, nQ 32 g9 none 0] ++ nO g5 g3 n A B Ap l.length on.length pots.length cap cap2 capp) (upd (upd (upd (upd e0 17 (vS g17 n)) 21 (vS g21 n)) 8 (vP g8)) 9 (vP g9)) := by
   intro g17 g21 g8 g9 w H; rw [hQ]
   refine Y.A2 11 14 rfl rfl rfl ?_ ?_
   ·refine Y.M H rfl ?_
    intro g25 w H
    refine OPS.nil ⟨H.rx [5, 6], ?_⟩
    rw [← hQ, uc 9 25, uc 8 25]; exact qd (s57 g17 g21 g25 g8 g9 w (H.rx [1, 2, 0, 3, 4, 5, 6]))
   ·refine Y.al H rfl rfl ?_
    intro g10 w H
    refine OPS.nil ⟨H.rx [5, 6], ?_⟩
    rw [← hQ]; exact qd (s60 g17 g21 g8 g9 g10 w (H.rx [1, 2, 3, 4, 0, 5, 6]))
  have s46 : ∀ g17 g21 g8 g10 : Nat, DQ Q 5 (bb 18 22527) w0 [] ([nS g17 n, nI g21 n, nQ 175 g8 none 0, nQ 154 g10 none 0] ++ nO g5 g3 n A B Ap l.length on.length pots.length cap cap2 capp) (upd (upd (upd (upd e0 17 (vS g17 n)) 21 (vS g21 n)) 8 (vP g8)) 10 (vP g10)) := by
   intro g17 g21 g8 g10 w H; rw [hQ]
   refine Y.A2 11 13 rfl rfl rfl ?_ ?_
   ·refine Y.M H rfl ?_
    intro g25 w H
    refine OPS.nil ⟨H.rx [5, 6], ?_⟩
    rw [← hQ, uc 10 25, uc 8 25]; exact qd (s58 g17 g21 g25 g8 g10 w (H.rx [1, 2, 0, 3, 4, 5, 6]))
   ·refine Y.al H rfl rfl ?_
    intro g9 w H
    refine OPS.nil ⟨H.rx [5, 6], ?_⟩
    rw [← hQ, uc 10 9]; exact qd (s60 g17 g21 g8 g9 g10 w (H.rx [1, 2, 3, 0, 4, 5, 6]))
  have s47 : ∀ g17 g21 g9 g10 : Nat, DQ Q 5 (bb 18 26623) w0 [] ([nS g17 n, nI g21 n, nQ 32 g9 none 0, nQ 154 g10 none 0] ++ nO g5 g3 n A B Ap l.length on.length pots.length cap cap2 capp) (upd (upd (upd (upd e0 17 (vS g17 n)) 21 (vS g21 n)) 9 (vP g9)) 10 (vP g10)) := by
   intro g17 g21 g9 g10 w H; rw [hQ]
   refine Y.A2 11 12 rfl rfl rfl ?_ ?_
   ·refine Y.M H rfl ?_
    intro g25 w H
    refine OPS.nil ⟨H.rx [5, 6], ?_⟩
    rw [← hQ, uc 10 25, uc 9 25]; exact qd (s59 g17 g21 g25 g9 g10 w (H.rx [1, 2, 0, 3, 4, 5, 6]))
   ·refine Y.al H rfl rfl ?_
    intro g8 w H
    refine OPS.nil ⟨H.rx [5, 6], ?_⟩
    rw [← hQ, uc 10 8, uc 9 8]; exact qd (s60 g17 g21 g8 g9 g10 w (H.rx [1, 2, 0, 3, 4, 5, 6]))
  have s48 : ∀ g17 g25 g8 g9 : Nat, DQ Q 5 (bb 18 16255) w0 [] ([nS g17 n, nD g25 n, nQ 175 g8 none 0, nQ 32 g9 none 0] ++ nO g5 g3 n A B Ap l.length on.length pots.length cap cap2 capp) (upd (upd (upd (upd e0 17 (vS g17 n)) 25 (vS g25 n)) 8 (vP g8)) 9 (vP g9)) := by
   intro g17 g25 g8 g9 w H; rw [hQ]
   refine Y.A2 7 14 rfl rfl rfl ?_ ?_
   ·refine Y.M H rfl ?_
    intro g21 w H
    refine OPS.nil ⟨H.rx [5, 6], ?_⟩
    rw [← hQ, uc 9 21, uc 8 21, uc 25 21]; exact qd (s57 g17 g21 g25 g8 g9 w (H.rx [1, 0, 2, 3, 4, 5, 6]))
   ·refine Y.al H rfl rfl ?_
    intro g10 w H
    refine OPS.nil ⟨H.rx [5, 6], ?_⟩
    rw [← hQ]; exact qd (s61 g17 g25 g8 g9 g10 w (H.rx [1, 2, 3, 4, 0, 5, 6]))
  have s49 : ∀ g17 g25 g8 g10 : Nat, DQ Q 5 (bb 18 24447) w0 [] ([nS g17 n, nD g25 n, nQ 175 g8 none 0, nQ 154 g10 none 0] ++ nO g5 g3 n A B Ap l.length on.length pots.length cap cap2 capp) (upd (upd (upd (upd e0 17 (vS g17 n)) 25 (vS g25 n)) 8 (vP g8)) 10 (vP g10)) := by
   intro g17 g25 g8 g10 w H; rw [hQ]
   refine Y.A2 7 13 rfl rfl rfl ?_ ?_
   ·refine Y.M H rfl ?_
    intro g21 w H
    refine OPS.nil ⟨H.rx [5, 6], ?_⟩
    rw [← hQ, uc 10 21, uc 8 21, uc 25 21]; exact qd (s58 g17 g21 g25 g8 g10 w (H.rx [1, 0, 2, 3, 4, 5, 6]))
   ·refine Y.al H rfl rfl ?_
    intro g9 w H
    refine OPS.nil ⟨H.rx [5, 6], ?_⟩
    rw [← hQ, uc 10 9]; exact qd (s61 g17 g25 g8 g9 g10 w (H.rx [1, 2, 3, 0, 4, 5, 6]))
  have s50 : ∀ g17 g25 g9 g10 : Nat, DQ Q 5 (bb 18 28543) w0 [] ([nS g17 n, nD g25 n, nQ 32 g9 none 0, nQ 154 g10 none 0] ++ nO g5 g3 n A B Ap l.length on.length pots.length cap cap2 capp) (upd (upd (upd (upd e0 17 (vS g17 n)) 25 (vS g25 n)) 9 (vP g9)) 10 (vP g10)) := by
   intro g17 g25 g9 g10 w H; rw [hQ]
   refine Y.A2 7 12 rfl rfl rfl ?_ ?_
   ·refine Y.M H rfl ?_
    intro g21 w H
    refine OPS.nil ⟨H.rx [5, 6], ?_⟩
    rw [← hQ, uc 10 21, uc 9 21, uc 25 21]; exact qd (s59 g17 g21 g25 g9 g10 w (H.rx [1, 0, 2, 3, 4, 5, 6]))
   ·refine Y.al H rfl rfl ?_
    intro g8 w H
    refine OPS.nil ⟨H.rx [5, 6], ?_⟩
    rw [← hQ, uc 10 8, uc 9 8]; exact qd (s61 g17 g25 g8 g9 g10 w (H.rx [1, 2, 0, 3, 4, 5, 6]))
  have s51 : ∀ g17 g8 g9 g10 : Nat, DQ Q 5 (bb 18 30591) w0 [] ([nS g17 n, nQ 175 g8 none 0, nQ 32 g9 none 0, nQ 154 g10 none 0] ++ nO g5 g3 n A B Ap l.length on.length pots.length cap cap2 capp) (upd (upd (upd (upd e0 17 (vS g17 n)) 8 (vP g8)) 9 (vP g9)) 10 (vP g10)) := by
   intro g17 g8 g9 g10 w H; rw [hQ]
   refine Y.A [7, 11, 15] rfl ⟨⟨_, rfl, ?_⟩, ⟨_, rfl, ?_⟩, ⟨_, rfl, ?_⟩, trivial⟩
   ·refine Y.M H rfl ?_
    intro g21 w H
    refine OPS.nil ⟨H.rx [5, 6], ?_⟩
    rw [← hQ, uc 10 21, uc 9 21, uc 8 21]; exact qd (s60 g17 g21 g8 g9 g10 w (H.rx [1, 0, 2, 3, 4, 5, 6]))
   ·refine Y.M H rfl ?_
    intro g25 w H
    refine OPS.nil ⟨H.rx [5, 6], ?_⟩
    rw [← hQ, uc 10 25, uc 9 25, uc 8 25]; exact qd (s61 g17 g25 g8 g9 g10 w (H.rx [1, 0, 2, 3, 4, 5, 6]))
   ·refine Y.st 1 H rfl (cS rfl) rfl ?_
    intro w H
    refine OPS.nil ⟨H.rx [4, 5], ?_⟩
    rw [← hQ]; exact qd (s62 g17 g8 g9 g10 w (H))
  have s52 : ∀ g21 g25 g8 g9 : Nat, DQ Q 5 (bb 18 16375) w0 [] ([nI g21 n, nD g25 n, nQ 175 g8 none 0, nQ 32 g9 none 0] ++ nO g5 g3 n A B Ap l.length on.length pots.length cap cap2 capp) (upd (upd (upd (upd e0 21 (vS g21 n)) 25 (vS g25 n)) 8 (vP g8)) 9 (vP g9)) := by
   intro g21 g25 g8 g9 w H; rw [hQ]
   refine Y.A2 3 14 rfl rfl rfl ?_ ?_
   ·refine Y.M H rfl ?_
    intro g17 w H
    refine OPS.nil ⟨H.rx [5, 6], ?_⟩
    rw [← hQ, uc 9 17, uc 8 17, uc 25 17, uc 21 17]; exact qd (s57 g17 g21 g25 g8 g9 w (H.rx [0, 1, 2, 3, 4, 5, 6]))
   ·refine Y.al H rfl rfl ?_
    intro g10 w H
    refine OPS.nil ⟨H.rx [5, 6], ?_⟩
    rw [← hQ]; exact qd (s63 g21 g25 g8 g9 g10 w (H.rx [1, 2, 3, 4, 0, 5, 6]))
  have s53 : ∀ g21 g25 g8 g10 : Nat, DQ Q 5 (bb 18 24567) w0 [] ([nI g21 n, nD g25 n, nQ 175 g8 none 0, nQ 154 g10 none 0] ++ nO g5 g3 n A B Ap l.length on.length pots.length cap cap2 capp) (upd (upd (upd (upd e0 21 (vS g21 n)) 25 (vS g25 n)) 8 (vP g8)) 10 (vP g10)) := by
   intro g21 g25 g8 g10 w H; rw [hQ]
   refine Y.A2 3 13 rfl rfl rfl ?_ ?_
   ·refine Y.M H rfl ?_
    intro g17 w H
    refine OPS.nil ⟨H.rx [5, 6], ?_⟩
    rw [← hQ, uc 10 17, uc 8 17, uc 25 17, uc 21 17]; exact qd (s58 g17 g21 g25 g8 g10 w (H.rx [0, 1, 2, 3, 4, 5, 6]))
   ·refine Y.al H rfl rfl ?_
    intro g9 w H
    refine OPS.nil ⟨H.rx [5, 6], ?_⟩
    rw [← hQ, uc 10 9]; exact qd (s63 g21 g25 g8 g9 g10 w (H.rx [1, 2, 3, 0, 4, 5, 6]))
  have s54 : ∀ g21 g25 g9 g10 : Nat, DQ Q 5 (bb 18 28663) w0 [] ([nI g21 n, nD g25 n, nQ 32 g9 none 0, nQ 154 g10 none 0] ++ nO g5 g3 n A B Ap l.length on.length pots.length cap cap2 capp) (upd (upd (upd (upd e0 21 (vS g21 n)) 25 (vS g25 n)) 9 (vP g9)) 10 (vP g10)) := by
   intro g21 g25 g9 g10 w H; rw [hQ]
   refine Y.A2 3 12 rfl rfl rfl ?_ ?_
   ·refine Y.M H rfl ?_
    intro g17 w H
    refine OPS.nil ⟨H.rx [5, 6], ?_⟩
    rw [← hQ, uc 10 17, uc 9 17, uc 25 17, uc 21 17]; exact qd (s59 g17 g21 g25 g9 g10 w (H.rx [0, 1, 2, 3, 4, 5, 6]))
   ·refine Y.al H rfl rfl ?_
    intro g8 w H
    refine OPS.nil ⟨H.rx [5, 6], ?_⟩
    rw [← hQ, uc 10 8, uc 9 8]; exact qd (s63 g21 g25 g8 g9 g10 w (H.rx [1, 2, 0, 3, 4, 5, 6]))
  have s55 : ∀ g21 g8 g9 g10 : Nat, DQ Q 5 (bb 18 30711) w0 [] ([nI g21 n, nQ 175 g8 none 0, nQ 32 g9 none 0, nQ 154 g10 none 0] ++ nO g5 g3 n A B Ap l.length on.length pots.length cap cap2 capp) (upd (upd (upd (upd e0 21 (vS g21 n)) 8 (vP g8)) 9 (vP g9)) 10 (vP g10)) := by
   intro g21 g8 g9 g10 w H; rw [hQ]
   refine Y.A2 3 11 rfl rfl rfl ?_ ?_
   ·refine Y.M H rfl ?_
    intro g17 w H
    refine OPS.nil ⟨H.rx [5, 6], ?_⟩
    rw [← hQ, uc 10 17, uc 9 17, uc 8 17, uc 21 17]; exact qd (s60 g17 g21 g8 g9 g10 w (H.rx [0, 1, 2, 3, 4, 5, 6]))
   ·refine Y.M H rfl ?_
    intro g25 w H
    refine OPS.nil ⟨H.rx [5, 6], ?_⟩
    rw [← hQ, uc 10 25, uc 9 25, uc 8 25]; exact qd (s63 g21 g25 g8 g9 g10 w (H.rx [1, 0, 2, 3, 4, 5, 6]))
  have s56 : ∀ g25 g8 g9 g10 : Nat, DQ Q 5 (bb 18 32631) w0 [] ([nD g25 n, nQ 175 g8 none 0, nQ 32 g9 none 0, nQ 154 g10 none 0] ++ nO g5 g3 n A B Ap l.length on.length pots.length cap cap2 capp) (upd (upd (upd (upd e0 25 (vS g25 n)) 8 (vP g8)) 9 (vP g9)) 10 (vP g10)) := by
   intro g25 g8 g9 g10 w H; rw [hQ]
   refine Y.A2 3 7 rfl rfl rfl ?_ ?_
   ·refine Y.M H rfl ?_
    intro g17 w H
    refine OPS.nil ⟨H.rx [5, 6], ?_⟩
    rw [← hQ, uc 10 17, uc 9 17, uc 8 17, uc 25 17]; exact qd (s61 g17 g25 g8 g9 g10 w (H.rx [0, 1, 2, 3, 4, 5, 6]))
   ·refine Y.M H rfl ?_
    intro g21 w H
    refine OPS.nil ⟨H.rx [5, 6], ?_⟩
    rw [← hQ, uc 10 21, uc 9 21, uc 8 21, uc 25 21]; exact qd (s63 g21 g25 g8 g9 g10 w (H.rx [0, 1, 2, 3, 4, 5, 6]))
  clear s57 s58 s59 s60 s61 s62 s63
  have s22 : ∀ g17 g21 g25 : Nat, DQ Q 6 (bb 18 4095) w0 [] ([nS g17 n, nI g21 n, nD g25 n] ++ nO g5 g3 n A B Ap l.length on.length pots.length cap cap2 capp) (upd (upd (upd e0 17 (vS g17 n)) 21 (vS g21 n)) 25 (vS g25 n)) := by
   intro g17 g21 g25 w H; rw [hQ]
   refine Y.A [12, 13, 14] rfl ⟨⟨_, rfl, ?_⟩, ⟨_, rfl, ?_⟩, ⟨_, rfl, ?_⟩, trivial⟩
   ·refine Y.al H rfl rfl ?_
    intro g8 w H
    refine OPS.nil ⟨H.rx [4, 5], ?_⟩
    rw [← hQ]; exact qd (s42 g17 g21 g25 g8 w (H.rx [1, 2, 3, 0, 4, 5]))
   ·refine Y.al H rfl rfl ?_
    intro g9 w H
    refine OPS.nil ⟨H.rx [4, 5], ?_⟩
    rw [← hQ]; exact qd (s43 g17 g21 g25 g9 w (H.rx [1, 2, 3, 0, 4, 5]))
   ·refine Y.al H rfl rfl ?_
    intro g10 w H
    refine OPS.nil ⟨H.rx [4, 5], ?_⟩
    rw [← hQ]; exact qd (s44 g17 g21 g25 g10 w (H.rx [1, 2, 3, 0, 4, 5]))
  have s23 : ∀ g17 g21 g8 : Nat, DQ Q 6 (bb 18 6143) w0 [] ([nS g17 n, nI g21 n, nQ 175 g8 none 0] ++ nO g5 g3 n A B Ap l.length on.length pots.length cap cap2 capp) (upd (upd (upd e0 17 (vS g17 n)) 21 (vS g21 n)) 8 (vP g8)) := by
   intro g17 g21 g8 w H; rw [hQ]
   refine Y.A [11, 13, 14] rfl ⟨⟨_, rfl, ?_⟩, ⟨_, rfl, ?_⟩, ⟨_, rfl, ?_⟩, trivial⟩
   ·refine Y.M H rfl ?_
    intro g25 w H
    refine OPS.nil ⟨H.rx [4, 5], ?_⟩
    rw [← hQ, uc 8 25]; exact qd (s42 g17 g21 g25 g8 w (H.rx [1, 2, 0, 3, 4, 5]))
   ·refine Y.al H rfl rfl ?_
    intro g9 w H
    refine OPS.nil ⟨H.rx [4, 5], ?_⟩
    rw [← hQ]; exact qd (s45 g17 g21 g8 g9 w (H.rx [1, 2, 3, 0, 4, 5]))
   ·refine Y.al H rfl rfl ?_
    intro g10 w H
    refine OPS.nil ⟨H.rx [4, 5], ?_⟩
    rw [← hQ]; exact qd (s46 g17 g21 g8 g10 w (H.rx [1, 2, 3, 0, 4, 5]))
  have s24 : ∀ g17 g21 g9 : Nat, DQ Q 6 (bb 18 10239) w0 [] ([nS g17 n, nI g21 n, nQ 32 g9 none 0] ++ nO g5 g3 n A B Ap l.length on.length pots.length cap cap2 capp) (upd (upd (upd e0 17 (vS g17 n)) 21 (vS g21 n)) 9 (vP g9)) := by
   intro g17 g21 g9 w H; rw [hQ]
   refine Y.A [11, 12, 14] rfl ⟨⟨_, rfl, ?_⟩, ⟨_, rfl, ?_⟩, ⟨_, rfl, ?_⟩, trivial⟩
   ·refine Y.M H rfl ?_
    intro g25 w H
    refine OPS.nil ⟨H.rx [4, 5], ?_⟩
    rw [← hQ, uc 9 25]; exact qd (s43 g17 g21 g25 g9 w (H.rx [1, 2, 0, 3, 4, 5]))
   ·refine Y.al H rfl rfl ?_
    intro g8 w H
    refine OPS.nil ⟨H.rx [4, 5], ?_⟩
    rw [← hQ, uc 9 8]; exact qd (s45 g17 g21 g8 g9 w (H.rx [1, 2, 0, 3, 4, 5]))
   ·refine Y.al H rfl rfl ?_
    intro g10 w H
    refine OPS.nil ⟨H.rx [4, 5], ?_⟩
    rw [← hQ]; exact qd (s47 g17 g21 g9 g10 w (H.rx [1, 2, 3, 0, 4, 5]))
  have s25 : ∀ g17 g21 g10 : Nat, DQ Q 6 (bb 18 18431) w0 [] ([nS g17 n, nI g21 n, nQ 154 g10 none 0] ++ nO g5 g3 n A B Ap l.length on.length pots.length cap cap2 capp) (upd (upd (upd e0 17 (vS g17 n)) 21 (vS g21 n)) 10 (vP g10)) := by
   intro g17 g21 g10 w H; rw [hQ]
   refine Y.A [11, 12, 13] rfl ⟨⟨_, rfl, ?_⟩, ⟨_, rfl, ?_⟩, ⟨_, rfl, ?_⟩, trivial⟩
   ·refine Y.M H rfl ?_
    intro g25 w H
    refine OPS.nil ⟨H.rx [4, 5], ?_⟩
    rw [← hQ, uc 10 25]; exact qd (s44 g17 g21 g25 g10 w (H.rx [1, 2, 0, 3, 4, 5]))
   ·refine Y.al H rfl rfl ?_
    intro g8 w H
    refine OPS.nil ⟨H.rx [4, 5], ?_⟩
    rw [← hQ, uc 10 8]; exact qd (s46 g17 g21 g8 g10 w (H.rx [1, 2, 0, 3, 4, 5]))
   ·refine Y.al H rfl rfl ?_
    intro g9 w H
    refine OPS.nil ⟨H.rx [4, 5], ?_⟩
    rw [← hQ, uc 10 9]; exact qd (s47 g17 g21 g9 g10 w (H.rx [1, 2, 0, 3, 4, 5]))
  have s26 : ∀ g17 g25 g8 : Nat, DQ Q 6 (bb 18 8063) w0 [] ([nS g17 n, nD g25 n, nQ 175 g8 none 0] ++ nO g5 g3 n A B Ap l.length on.length pots.length cap cap2 capp) (upd (upd (upd e0 17 (vS g17 n)) 25 (vS g25 n)) 8 (vP g8)) := by
   intro g17 g25 g8 w H; rw [hQ]
   refine Y.A [7, 13, 14] rfl ⟨⟨_, rfl, ?_⟩, ⟨_, rfl, ?_⟩, ⟨_, rfl, ?_⟩, trivial⟩
   ·refine Y.M H rfl ?_
    intro g21 w H
    refine OPS.nil ⟨H.rx [4, 5], ?_⟩
    rw [← hQ, uc 8 21, uc 25 21]; exact qd (s42 g17 g21 g25 g8 w (H.rx [1, 0, 2, 3, 4, 5]))
   ·refine Y.al H rfl rfl ?_
    intro g9 w H
    refine OPS.nil ⟨H.rx [4, 5], ?_⟩
    rw [← hQ]; exact qd (s48 g17 g25 g8 g9 w (H.rx [1, 2, 3, 0, 4, 5]))
   ·refine Y.al H rfl rfl ?_
    intro g10 w H
    refine OPS.nil ⟨H.rx [4, 5], ?_⟩
    rw [← hQ]; exact qd (s49 g17 g25 g8 g10 w (H.rx [1, 2, 3, 0, 4, 5]))
  have s27 : ∀ g17 g25 g9 : Nat, DQ Q 6 (bb 18 12159) w0 [] ([nS g17 n, nD g25 n, nQ 32 g9 none 0] ++ nO g5 g3 n A B Ap l.length on.length pots.length cap cap2 capp) (upd (upd (upd e0 17 (vS g17 n)) 25 (vS g25 n)) 9 (vP g9)) := by
   intro g17 g25 g9 w H; rw [hQ]
   refine Y.A [7, 12, 14] rfl ⟨⟨_, rfl, ?_⟩, ⟨_, rfl, ?_⟩, ⟨_, rfl, ?_⟩, trivial⟩
   ·refine Y.M H rfl ?_
    intro g21 w H
    refine OPS.nil ⟨H.rx [4, 5], ?_⟩
    rw [← hQ, uc 9 21, uc 25 21]; exact qd (s43 g17 g21 g25 g9 w (H.rx [1, 0, 2, 3, 4, 5]))
   ·refine Y.al H rfl rfl ?_
    intro g8 w H
    refine OPS.nil ⟨H.rx [4, 5], ?_⟩
    rw [← hQ, uc 9 8]; exact qd (s48 g17 g25 g8 g9 w (H.rx [1, 2, 0, 3, 4, 5]))
   ·refine Y.al H rfl rfl ?_
    intro g10 w H
    refine OPS.nil ⟨H.rx [4, 5], ?_⟩
    rw [← hQ]; exact qd (s50 g17 g25 g9 g10 w (H.rx [1, 2, 3, 0, 4, 5]))
  have s28 : ∀ g17 g25 g10 : Nat, DQ Q 6 (bb 18 20351) w0 [] ([nS g17 n, nD g25 n, nQ 154 g10 none 0] ++ nO g5 g3 n A B Ap l.length on.length pots.length cap cap2 capp) (upd (upd (upd e0 17 (vS g17 n)) 25 (vS g25 n)) 10 (vP g10)) := by
   intro g17 g25 g10 w H; rw [hQ]
   refine Y.A [7, 12, 13] rfl ⟨⟨_, rfl, ?_⟩, ⟨_, rfl, ?_⟩, ⟨_, rfl, ?_⟩, trivial⟩
   ·refine Y.M H rfl ?_
    intro g21 w H
    refine OPS.nil ⟨H.rx [4, 5], ?_⟩
    rw [← hQ, uc 10 21, uc 25 21]; exact qd (s44 g17 g21 g25 g10 w (H.rx [1, 0, 2, 3, 4, 5]))
   ·refine Y.al H rfl rfl ?_
    intro g8 w H
    refine OPS.nil ⟨H.rx [4, 5], ?_⟩
    rw [← hQ, uc 10 8]; exact qd (s49 g17 g25 g8 g10 w (H.rx [1, 2, 0, 3, 4, 5]))
   ·refine Y.al H rfl rfl ?_
    intro g9 w H
    refine OPS.nil ⟨H.rx [4, 5], ?_⟩
    rw [← hQ, uc 10 9]; exact qd (s50 g17 g25 g9 g10 w (H.rx [1, 2, 0, 3, 4, 5]))
  have s29 : ∀ g17 g8 g9 : Nat, DQ Q 6 (bb 18 14207) w0 [] ([nS g17 n, nQ 175 g8 none 0, nQ 32 g9 none 0] ++ nO g5 g3 n A B Ap l.length on.length pots.length cap cap2 capp) (upd (upd (upd e0 17 (vS g17 n)) 8 (vP g8)) 9 (vP g9)) := by
   intro g17 g8 g9 w H; rw [hQ]
   refine Y.A [7, 11, 14] rfl ⟨⟨_, rfl, ?_⟩, ⟨_, rfl, ?_⟩, ⟨_, rfl, ?_⟩, trivial⟩
   ·refine Y.M H rfl ?_
    intro g21 w H
    refine OPS.nil ⟨H.rx [4, 5], ?_⟩
    rw [← hQ, uc 9 21, uc 8 21]; exact qd (s45 g17 g21 g8 g9 w (H.rx [1, 0, 2, 3, 4, 5]))
   ·refine Y.M H rfl ?_
    intro g25 w H
    refine OPS.nil ⟨H.rx [4, 5], ?_⟩
    rw [← hQ, uc 9 25, uc 8 25]; exact qd (s48 g17 g25 g8 g9 w (H.rx [1, 0, 2, 3, 4, 5]))
   ·refine Y.al H rfl rfl ?_
    intro g10 w H
    refine OPS.nil ⟨H.rx [4, 5], ?_⟩
    rw [← hQ]; exact qd (s51 g17 g8 g9 g10 w (H.rx [1, 2, 3, 0, 4, 5]))
  have s30 : ∀ g17 g8 g10 : Nat, DQ Q 6 (bb 18 22399) w0 [] ([nS g17 n, nQ 175 g8 none 0, nQ 154 g10 none 0] ++ nO g5 g3 n A B Ap l.length on.length pots.length cap cap2 capp) (upd (upd (upd e0 17 (vS g17 n)) 8 (vP g8)) 10 (vP g10)) := by
   intro g17 g8 g10 w H; rw [hQ]
   refine Y.A [7, 11, 13] rfl ⟨⟨_, rfl, ?_⟩, ⟨_, rfl, ?_⟩, ⟨_, rfl, ?_⟩, trivial⟩
   ·refine Y.M H rfl ?_
    intro g21 w H
    refine OPS.nil ⟨H.rx [4, 5], ?_⟩
    rw [← hQ, uc 10 21, uc 8 21]; exact qd (s46 g17 g21 g8 g10 w (H.rx [1, 0, 2, 3, 4, 5]))
   ·refine Y.M H rfl ?_
    intro g25 w H
    refine OPS.nil ⟨H.rx [4, 5], ?_⟩
    rw [← hQ, uc 10 25, uc 8 25]; exact qd (s49 g17 g25 g8 g10 w (H.rx [1, 0, 2, 3, 4, 5]))
   ·refine Y.al H rfl rfl ?_
    intro g9 w H
    refine OPS.nil ⟨H.rx [4, 5], ?_⟩
    rw [← hQ, uc 10 9]; exact qd (s51 g17 g8 g9 g10 w (H.rx [1, 2, 0, 3, 4, 5]))
  have s31 : ∀ g17 g9 g10 : Nat, DQ Q 6 (bb 18 26495) w0 [] ([nS g17 n, nQ 32 g9 none 0, nQ 154 g10 none 0] ++ nO g5 g3 n A B Ap l.length on.length pots.length cap cap2 capp) (upd (upd (upd e0 17 (vS g17 n)) 9 (vP g9)) 10 (vP g10)) := by
   intro g17 g9 g10 w H; rw [hQ]
   refine Y.A [7, 11, 12] rfl ⟨⟨_, rfl, ?_⟩, ⟨_, rfl, ?_⟩, ⟨_, rfl, ?_⟩, trivial⟩
   ·refine Y.M H rfl ?_
    intro g21 w H
    refine OPS.nil ⟨H.rx [4, 5], ?_⟩
    rw [← hQ, uc 10 21, uc 9 21]; exact qd (s47 g17 g21 g9 g10 w (H.rx [1, 0, 2, 3, 4, 5]))
   ·refine Y.M H rfl ?_
    intro g25 w H
    refine OPS.nil ⟨H.rx [4, 5], ?_⟩
    rw [← hQ, uc 10 25, uc 9 25]; exact qd (s50 g17 g25 g9 g10 w (H.rx [1, 0, 2, 3, 4, 5]))
   ·refine Y.al H rfl rfl ?_
    intro g8 w H
    refine OPS.nil ⟨H.rx [4, 5], ?_⟩
    rw [← hQ, uc 10 8, uc 9 8]; exact qd (s51 g17 g8 g9 g10 w (H.rx [1, 0, 2, 3, 4, 5]))
  have s32 : ∀ g21 g25 g8 : Nat, DQ Q 6 (bb 18 8183) w0 [] ([nI g21 n, nD g25 n, nQ 175 g8 none 0] ++ nO g5 g3 n A B Ap l.length on.length pots.length cap cap2 capp) (upd (upd (upd e0 21 (vS g21 n)) 25 (vS g25 n)) 8 (vP g8)) := by
   intro g21 g25 g8 w H; rw [hQ]
   refine Y.A [3, 13, 14] rfl ⟨⟨_, rfl, ?_⟩, ⟨_, rfl, ?_⟩, ⟨_, rfl, ?_⟩, trivial⟩
   ·refine Y.M H rfl ?_
    intro g17 w H
    refine OPS.nil ⟨H.rx [4, 5], ?_⟩
    rw [← hQ, uc 8 17, uc 25 17, uc 21 17]; exact qd (s42 g17 g21 g25 g8 w (H.rx [0, 1, 2, 3, 4, 5]))
   ·refine Y.al H rfl rfl ?_
    intro g9 w H
    refine OPS.nil ⟨H.rx [4, 5], ?_⟩
    rw [← hQ]; exact qd (s52 g21 g25 g8 g9 w (H.rx [1, 2, 3, 0, 4, 5]))
   ·refine Y.al H rfl rfl ?_
    intro g10 w H
    refine OPS.nil ⟨H.rx [4, 5], ?_⟩
    rw [← hQ]; exact qd (s53 g21 g25 g8 g10 w (H.rx [1, 2, 3, 0, 4, 5]))
  have s33 : ∀ g21 g25 g9 : Nat, DQ Q 6 (bb 18 12279) w0 [] ([nI g21 n, nD g25 n, nQ 32 g9 none 0] ++ nO g5 g3 n A B Ap l.length on.length pots.length cap cap2 capp) (upd (upd (upd e0 21 (vS g21 n)) 25 (vS g25 n)) 9 (vP g9)) := by
   intro g21 g25 g9 w H; rw [hQ]
   refine Y.A [3, 12, 14] rfl ⟨⟨_, rfl, ?_⟩, ⟨_, rfl, ?_⟩, ⟨_, rfl, ?_⟩, trivial⟩
   ·refine Y.M H rfl ?_
    intro g17 w H
    refine OPS.nil ⟨H.rx [4, 5], ?_⟩
    rw [← hQ, uc 9 17, uc 25 17, uc 21 17]; exact qd (s43 g17 g21 g25 g9 w (H.rx [0, 1, 2, 3, 4, 5]))
   ·refine Y.al H rfl rfl ?_
    intro g8 w H
    refine OPS.nil ⟨H.rx [4, 5], ?_⟩
    rw [← hQ, uc 9 8]; exact qd (s52 g21 g25 g8 g9 w (H.rx [1, 2, 0, 3, 4, 5]))
   ·refine Y.al H rfl rfl ?_
    intro g10 w H
    refine OPS.nil ⟨H.rx [4, 5], ?_⟩
    rw [← hQ]; exact qd (s54 g21 g25 g9 g10 w (H.rx [1, 2, 3, 0, 4, 5]))
  have s34 : ∀ g21 g25 g10 : Nat, DQ Q 6 (bb 18 20471) w0 [] ([nI g21 n, nD g25 n, nQ 154 g10 none 0] ++ nO g5 g3 n A B Ap l.length on.length pots.length cap cap2 capp) (upd (upd (upd e0 21 (vS g21 n)) 25 (vS g25 n)) 10 (vP g10)) := by
   intro g21 g25 g10 w H; rw [hQ]
   refine Y.A [3, 12, 13] rfl ⟨⟨_, rfl, ?_⟩, ⟨_, rfl, ?_⟩, ⟨_, rfl, ?_⟩, trivial⟩
   ·refine Y.M H rfl ?_
    intro g17 w H
    refine OPS.nil ⟨H.rx [4, 5], ?_⟩
    rw [← hQ, uc 10 17, uc 25 17, uc 21 17]; exact qd (s44 g17 g21 g25 g10 w (H.rx [0, 1, 2, 3, 4, 5]))
   ·refine Y.al H rfl rfl ?_
    intro g8 w H
    refine OPS.nil ⟨H.rx [4, 5], ?_⟩
    rw [← hQ, uc 10 8]; exact qd (s53 g21 g25 g8 g10 w (H.rx [1, 2, 0, 3, 4, 5]))
   ·refine Y.al H rfl rfl ?_
    intro g9 w H
    refine OPS.nil ⟨H.rx [4, 5], ?_⟩
    rw [← hQ, uc 10 9]; exact qd (s54 g21 g25 g9 g10 w (H.rx [1, 2, 0, 3, 4, 5]))
  have s35 : ∀ g21 g8 g9 : Nat, DQ Q 6 (bb 18 14327) w0 [] ([nI g21 n, nQ 175 g8 none 0, nQ 32 g9 none 0] ++ nO g5 g3 n A B Ap l.length on.length pots.length cap cap2 capp) (upd (upd (upd e0 21 (vS g21 n)) 8 (vP g8)) 9 (vP g9)) := by
   intro g21 g8 g9 w H; rw [hQ]
   refine Y.A [3, 11, 14] rfl ⟨⟨_, rfl, ?_⟩, ⟨_, rfl, ?_⟩, ⟨_, rfl, ?_⟩, trivial⟩
   ·refine Y.M H rfl ?_
    intro g17 w H
    refine OPS.nil ⟨H.rx [4, 5], ?_⟩
    rw [← hQ, uc 9 17, uc 8 17, uc 21 17]; exact qd (s45 g17 g21 g8 g9 w (H.rx [0, 1, 2, 3, 4, 5]))
   ·refine Y.M H rfl ?_
    intro g25 w H
    refine OPS.nil ⟨H.rx [4, 5], ?_⟩
    rw [← hQ, uc 9 25, uc 8 25]; exact qd (s52 g21 g25 g8 g9 w (H.rx [1, 0, 2, 3, 4, 5]))
   ·refine Y.al H rfl rfl ?_
    intro g10 w H
    refine OPS.nil ⟨H.rx [4, 5], ?_⟩
    rw [← hQ]; exact qd (s55 g21 g8 g9 g10 w (H.rx [1, 2, 3, 0, 4, 5]))
  have s36 : ∀ g21 g8 g10 : Nat, DQ Q 6 (bb 18 22519) w0 [] ([nI g21 n, nQ 175 g8 none 0, nQ 154 g10 none 0] ++ nO g5 g3 n A B Ap l.length on.length pots.length cap cap2 capp) (upd (upd (upd e0 21 (vS g21 n)) 8 (vP g8)) 10 (vP g10)) := by
   intro g21 g8 g10 w H; rw [hQ]
   refine Y.A [3, 11, 13] rfl ⟨⟨_, rfl, ?_⟩, ⟨_, rfl, ?_⟩, ⟨_, rfl, ?_⟩, trivial⟩
   ·refine Y.M H rfl ?_
    intro g17 w H
    refine OPS.nil ⟨H.rx [4, 5], ?_⟩
    rw [← hQ, uc 10 17, uc 8 17, uc 21 17]; exact qd (s46 g17 g21 g8 g10 w (H.rx [0, 1, 2, 3, 4, 5]))
   ·refine Y.M H rfl ?_
    intro g25 w H
    refine OPS.nil ⟨H.rx [4, 5], ?_⟩
    rw [← hQ, uc 10 25, uc 8 25]; exact qd (s53 g21 g25 g8 g10 w (H.rx [1, 0, 2, 3, 4, 5]))
   ·refine Y.al H rfl rfl ?_
    intro g9 w H
    refine OPS.nil ⟨H.rx [4, 5], ?_⟩
    rw [← hQ, uc 10 9]; exact qd (s55 g21 g8 g9 g10 w (H.rx [1, 2, 0, 3, 4, 5]))
  have s37 : ∀ g21 g9 g10 : Nat, DQ Q 6 (bb 18 26615) w0 [] ([nI g21 n, nQ 32 g9 none 0, nQ 154 g10 none 0] ++ nO g5 g3 n A B Ap l.length on.length pots.length cap cap2 capp) (upd (upd (upd e0 21 (vS g21 n)) 9 (vP g9)) 10 (vP g10)) := by
   intro g21 g9 g10 w H; rw [hQ]
   refine Y.A [3, 11, 12] rfl ⟨⟨_, rfl, ?_⟩, ⟨_, rfl, ?_⟩, ⟨_, rfl, ?_⟩, trivial⟩
   ·refine Y.M H rfl ?_
    intro g17 w H
    refine OPS.nil ⟨H.rx [4, 5], ?_⟩
    rw [← hQ, uc 10 17, uc 9 17, uc 21 17]; exact qd (s47 g17 g21 g9 g10 w (H.rx [0, 1, 2, 3, 4, 5]))
   ·refine Y.M H rfl ?_
    intro g25 w H
    refine OPS.nil ⟨H.rx [4, 5], ?_⟩
    rw [← hQ, uc 10 25, uc 9 25]; exact qd (s54 g21 g25 g9 g10 w (H.rx [1, 0, 2, 3, 4, 5]))
   ·refine Y.al H rfl rfl ?_
    intro g8 w H
    refine OPS.nil ⟨H.rx [4, 5], ?_⟩
    rw [← hQ, uc 10 8, uc 9 8]; exact qd (s55 g21 g8 g9 g10 w (H.rx [1, 0, 2, 3, 4, 5]))
  have s38 : ∀ g25 g8 g9 : Nat, DQ Q 6 (bb 18 16247) w0 [] ([nD g25 n, nQ 175 g8 none 0, nQ 32 g9 none 0] ++ nO g5 g3 n A B Ap l.length on.length pots.length cap cap2 capp) (upd (upd (upd e0 25 (vS g25 n)) 8 (vP g8)) 9 (vP g9)) := by
   intro g25 g8 g9 w H; rw [hQ]
   refine Y.A [3, 7, 14] rfl ⟨⟨_, rfl, ?_⟩, ⟨_, rfl, ?_⟩, ⟨_, rfl, ?_⟩, trivial⟩
   ·refine Y.M H rfl ?_
    intro g17 w H
    refine OPS.nil ⟨H.rx [4, 5], ?_⟩
    rw [← hQ, uc 9 17, uc 8 17, uc 25 17]; exact qd (s48 g17 g25 g8 g9 w (H.rx [0, 1, 2, 3, 4, 5]))
   ·refine Y.M H rfl ?_
    intro g21 w H
    refine OPS.nil ⟨H.rx [4, 5], ?_⟩
    rw [← hQ, uc 9 21, uc 8 21, uc 25 21]; exact qd (s52 g21 g25 g8 g9 w (H.rx [0, 1, 2, 3, 4, 5]))
   ·refine Y.al H rfl rfl ?_
    intro g10 w H
    refine OPS.nil ⟨H.rx [4, 5], ?_⟩
    rw [← hQ]; exact qd (s56 g25 g8 g9 g10 w (H.rx [1, 2, 3, 0, 4, 5]))
  have s39 : ∀ g25 g8 g10 : Nat, DQ Q 6 (bb 18 24439) w0 [] ([nD g25 n, nQ 175 g8 none 0, nQ 154 g10 none 0] ++ nO g5 g3 n A B Ap l.length on.length pots.length cap cap2 capp) (upd (upd (upd e0 25 (vS g25 n)) 8 (vP g8)) 10 (vP g10)) := by
   intro g25 g8 g10 w H; rw [hQ]
   refine Y.A [3, 7, 13] rfl ⟨⟨_, rfl, ?_⟩, ⟨_, rfl, ?_⟩, ⟨_, rfl, ?_⟩, trivial⟩
   ·refine Y.M H rfl ?_
    intro g17 w H
    refine OPS.nil ⟨H.rx [4, 5], ?_⟩
    rw [← hQ, uc 10 17, uc 8 17, uc 25 17]; exact qd (s49 g17 g25 g8 g10 w (H.rx [0, 1, 2, 3, 4, 5]))
   ·refine Y.M H rfl ?_
    intro g21 w H
    refine OPS.nil ⟨H.rx [4, 5], ?_⟩
    rw [← hQ, uc 10 21, uc 8 21, uc 25 21]; exact qd (s53 g21 g25 g8 g10 w (H.rx [0, 1, 2, 3, 4, 5]))
   ·refine Y.al H rfl rfl ?_
    intro g9 w H
    refine OPS.nil ⟨H.rx [4, 5], ?_⟩
    rw [← hQ, uc 10 9]; exact qd (s56 g25 g8 g9 g10 w (H.rx [1, 2, 0, 3, 4, 5]))
  have s40 : ∀ g25 g9 g10 : Nat, DQ Q 6 (bb 18 28535) w0 [] ([nD g25 n, nQ 32 g9 none 0, nQ 154 g10 none 0] ++ nO g5 g3 n A B Ap l.length on.length pots.length cap cap2 capp) (upd (upd (upd e0 25 (vS g25 n)) 9 (vP g9)) 10 (vP g10)) := by
   intro g25 g9 g10 w H; rw [hQ]
   refine Y.A [3, 7, 12] rfl ⟨⟨_, rfl, ?_⟩, ⟨_, rfl, ?_⟩, ⟨_, rfl, ?_⟩, trivial⟩
   ·refine Y.M H rfl ?_
    intro g17 w H
    refine OPS.nil ⟨H.rx [4, 5], ?_⟩
    rw [← hQ, uc 10 17, uc 9 17, uc 25 17]; exact qd (s50 g17 g25 g9 g10 w (H.rx [0, 1, 2, 3, 4, 5]))
   ·refine Y.M H rfl ?_
    intro g21 w H
    refine OPS.nil ⟨H.rx [4, 5], ?_⟩
    rw [← hQ, uc 10 21, uc 9 21, uc 25 21]; exact qd (s54 g21 g25 g9 g10 w (H.rx [0, 1, 2, 3, 4, 5]))
   ·refine Y.al H rfl rfl ?_
    intro g8 w H
    refine OPS.nil ⟨H.rx [4, 5], ?_⟩
    rw [← hQ, uc 10 8, uc 9 8]; exact qd (s56 g25 g8 g9 g10 w (H.rx [1, 0, 2, 3, 4, 5]))
  have s41 : ∀ g8 g9 g10 : Nat, DQ Q 6 (bb 18 30583) w0 [] ([nQ 175 g8 none 0, nQ 32 g9 none 0, nQ 154 g10 none 0] ++ nO g5 g3 n A B Ap l.length on.length pots.length cap cap2 capp) (upd (upd (upd e0 8 (vP g8)) 9 (vP g9)) 10 (vP g10)) := by
   intro g8 g9 g10 w H; rw [hQ]
   refine Y.A [3, 7, 11] rfl ⟨⟨_, rfl, ?_⟩, ⟨_, rfl, ?_⟩, ⟨_, rfl, ?_⟩, trivial⟩
   ·refine Y.M H rfl ?_
    intro g17 w H
    refine OPS.nil ⟨H.rx [4, 5], ?_⟩
    rw [← hQ, uc 10 17, uc 9 17, uc 8 17]; exact qd (s51 g17 g8 g9 g10 w (H.rx [0, 1, 2, 3, 4, 5]))
   ·refine Y.M H rfl ?_
    intro g21 w H
    refine OPS.nil ⟨H.rx [4, 5], ?_⟩
    rw [← hQ, uc 10 21, uc 9 21, uc 8 21]; exact qd (s55 g21 g8 g9 g10 w (H.rx [0, 1, 2, 3, 4, 5]))
   ·refine Y.M H rfl ?_
    intro g25 w H
    refine OPS.nil ⟨H.rx [4, 5], ?_⟩
    rw [← hQ, uc 10 25, uc 9 25, uc 8 25]; exact qd (s56 g25 g8 g9 g10 w (H.rx [0, 1, 2, 3, 4, 5]))
  clear s42 s43 s44 s45 s46 s47 s48 s49 s50 s51 s52 s53 s54 s55 s56
  have s7 : ∀ g17 g21 : Nat, DQ Q 7 (bb 18 2047) w0 [] ([nS g17 n, nI g21 n] ++ nO g5 g3 n A B Ap l.length on.length pots.length cap cap2 capp) (upd (upd e0 17 (vS g17 n)) 21 (vS g21 n)) := by
   intro g17 g21 w H; rw [hQ]
   refine Y.A [11, 12, 13, 14] rfl ⟨⟨_, rfl, ?_⟩, ⟨_, rfl, ?_⟩, ⟨_, rfl, ?_⟩, ⟨_, rfl, ?_⟩, trivial⟩
   ·refine Y.M H rfl ?_
    intro g25 w H
    refine OPS.nil ⟨H.rx [3, 4], ?_⟩
    rw [← hQ]; exact qd (s22 g17 g21 g25 w (H.rx [1, 2, 0, 3, 4]))
   ·refine Y.al H rfl rfl ?_
    intro g8 w H
    refine OPS.nil ⟨H.rx [3, 4], ?_⟩
    rw [← hQ]; exact qd (s23 g17 g21 g8 w (H.rx [1, 2, 0, 3, 4]))
   ·refine Y.al H rfl rfl ?_
    intro g9 w H
    refine OPS.nil ⟨H.rx [3, 4], ?_⟩
    rw [← hQ]; exact qd (s24 g17 g21 g9 w (H.rx [1, 2, 0, 3, 4]))
   ·refine Y.al H rfl rfl ?_
    intro g10 w H
    refine OPS.nil ⟨H.rx [3, 4], ?_⟩
    rw [← hQ]; exact qd (s25 g17 g21 g10 w (H.rx [1, 2, 0, 3, 4]))
  have s8 : ∀ g17 g25 : Nat, DQ Q 7 (bb 18 3967) w0 [] ([nS g17 n, nD g25 n] ++ nO g5 g3 n A B Ap l.length on.length pots.length cap cap2 capp) (upd (upd e0 17 (vS g17 n)) 25 (vS g25 n)) := by
   intro g17 g25 w H; rw [hQ]
   refine Y.A [7, 12, 13, 14] rfl ⟨⟨_, rfl, ?_⟩, ⟨_, rfl, ?_⟩, ⟨_, rfl, ?_⟩, ⟨_, rfl, ?_⟩, trivial⟩
   ·refine Y.M H rfl ?_
    intro g21 w H
    refine OPS.nil ⟨H.rx [3, 4], ?_⟩
    rw [← hQ, uc 25 21]; exact qd (s22 g17 g21 g25 w (H.rx [1, 0, 2, 3, 4]))
   ·refine Y.al H rfl rfl ?_
    intro g8 w H
    refine OPS.nil ⟨H.rx [3, 4], ?_⟩
    rw [← hQ]; exact qd (s26 g17 g25 g8 w (H.rx [1, 2, 0, 3, 4]))
   ·refine Y.al H rfl rfl ?_
    intro g9 w H
    refine OPS.nil ⟨H.rx [3, 4], ?_⟩
    rw [← hQ]; exact qd (s27 g17 g25 g9 w (H.rx [1, 2, 0, 3, 4]))
   ·refine Y.al H rfl rfl ?_
    intro g10 w H
    refine OPS.nil ⟨H.rx [3, 4], ?_⟩
    rw [← hQ]; exact qd (s28 g17 g25 g10 w (H.rx [1, 2, 0, 3, 4]))
  have s9 : ∀ g17 g8 : Nat, DQ Q 7 (bb 18 6015) w0 [] ([nS g17 n, nQ 175 g8 none 0] ++ nO g5 g3 n A B Ap l.length on.length pots.length cap cap2 capp) (upd (upd e0 17 (vS g17 n)) 8 (vP g8)) := by
   intro g17 g8 w H; rw [hQ]
   refine Y.A [7, 11, 13, 14] rfl ⟨⟨_, rfl, ?_⟩, ⟨_, rfl, ?_⟩, ⟨_, rfl, ?_⟩, ⟨_, rfl, ?_⟩, trivial⟩
   ·refine Y.M H rfl ?_
    intro g21 w H
    refine OPS.nil ⟨H.rx [3, 4], ?_⟩
    rw [← hQ, uc 8 21]; exact qd (s23 g17 g21 g8 w (H.rx [1, 0, 2, 3, 4]))
   ·refine Y.M H rfl ?_
    intro g25 w H
    refine OPS.nil ⟨H.rx [3, 4], ?_⟩
    rw [← hQ, uc 8 25]; exact qd (s26 g17 g25 g8 w (H.rx [1, 0, 2, 3, 4]))
   ·refine Y.al H rfl rfl ?_
    intro g9 w H
    refine OPS.nil ⟨H.rx [3, 4], ?_⟩
    rw [← hQ]; exact qd (s29 g17 g8 g9 w (H.rx [1, 2, 0, 3, 4]))
   ·refine Y.al H rfl rfl ?_
    intro g10 w H
    refine OPS.nil ⟨H.rx [3, 4], ?_⟩
    rw [← hQ]; exact qd (s30 g17 g8 g10 w (H.rx [1, 2, 0, 3, 4]))
  have s10 : ∀ g17 g9 : Nat, DQ Q 7 (bb 18 10111) w0 [] ([nS g17 n, nQ 32 g9 none 0] ++ nO g5 g3 n A B Ap l.length on.length pots.length cap cap2 capp) (upd (upd e0 17 (vS g17 n)) 9 (vP g9)) := by
   intro g17 g9 w H; rw [hQ]
   refine Y.A [7, 11, 12, 14] rfl ⟨⟨_, rfl, ?_⟩, ⟨_, rfl, ?_⟩, ⟨_, rfl, ?_⟩, ⟨_, rfl, ?_⟩, trivial⟩
   ·refine Y.M H rfl ?_
    intro g21 w H
    refine OPS.nil ⟨H.rx [3, 4], ?_⟩
    rw [← hQ, uc 9 21]; exact qd (s24 g17 g21 g9 w (H.rx [1, 0, 2, 3, 4]))
   ·refine Y.M H rfl ?_
    intro g25 w H
    refine OPS.nil ⟨H.rx [3, 4], ?_⟩
    rw [← hQ, uc 9 25]; exact qd (s27 g17 g25 g9 w (H.rx [1, 0, 2, 3, 4]))
   ·refine Y.al H rfl rfl ?_
    intro g8 w H
    refine OPS.nil ⟨H.rx [3, 4], ?_⟩
    rw [← hQ, uc 9 8]; exact qd (s29 g17 g8 g9 w (H.rx [1, 0, 2, 3, 4]))
   ·refine Y.al H rfl rfl ?_
    intro g10 w H
    refine OPS.nil ⟨H.rx [3, 4], ?_⟩
    rw [← hQ]; exact qd (s31 g17 g9 g10 w (H.rx [1, 2, 0, 3, 4]))
  have s11 : ∀ g17 g10 : Nat, DQ Q 7 (bb 18 18303) w0 [] ([nS g17 n, nQ 154 g10 none 0] ++ nO g5 g3 n A B Ap l.length on.length pots.length cap cap2 capp) (upd (upd e0 17 (vS g17 n)) 10 (vP g10)) := by
   intro g17 g10 w H; rw [hQ]
   refine Y.A [7, 11, 12, 13] rfl ⟨⟨_, rfl, ?_⟩, ⟨_, rfl, ?_⟩, ⟨_, rfl, ?_⟩, ⟨_, rfl, ?_⟩, trivial⟩
   ·refine Y.M H rfl ?_
    intro g21 w H
    refine OPS.nil ⟨H.rx [3, 4], ?_⟩
    rw [← hQ, uc 10 21]; exact qd (s25 g17 g21 g10 w (H.rx [1, 0, 2, 3, 4]))
   ·refine Y.M H rfl ?_
    intro g25 w H
    refine OPS.nil ⟨H.rx [3, 4], ?_⟩
    rw [← hQ, uc 10 25]; exact qd (s28 g17 g25 g10 w (H.rx [1, 0, 2, 3, 4]))
   ·refine Y.al H rfl rfl ?_
    intro g8 w H
    refine OPS.nil ⟨H.rx [3, 4], ?_⟩
    rw [← hQ, uc 10 8]; exact qd (s30 g17 g8 g10 w (H.rx [1, 0, 2, 3, 4]))
   ·refine Y.al H rfl rfl ?_
    intro g9 w H
    refine OPS.nil ⟨H.rx [3, 4], ?_⟩
    rw [← hQ, uc 10 9]; exact qd (s31 g17 g9 g10 w (H.rx [1, 0, 2, 3, 4]))
  have s12 : ∀ g21 g25 : Nat, DQ Q 7 (bb 18 4087) w0 [] ([nI g21 n, nD g25 n] ++ nO g5 g3 n A B Ap l.length on.length pots.length cap cap2 capp) (upd (upd e0 21 (vS g21 n)) 25 (vS g25 n)) := by
   intro g21 g25 w H; rw [hQ]
   refine Y.A [3, 12, 13, 14] rfl ⟨⟨_, rfl, ?_⟩, ⟨_, rfl, ?_⟩, ⟨_, rfl, ?_⟩, ⟨_, rfl, ?_⟩, trivial⟩
   ·refine Y.M H rfl ?_
    intro g17 w H
    refine OPS.nil ⟨H.rx [3, 4], ?_⟩
    rw [← hQ, uc 25 17, uc 21 17]; exact qd (s22 g17 g21 g25 w (H.rx [0, 1, 2, 3, 4]))
   ·refine Y.al H rfl rfl ?_
    intro g8 w H
    refine OPS.nil ⟨H.rx [3, 4], ?_⟩
    rw [← hQ]; exact qd (s32 g21 g25 g8 w (H.rx [1, 2, 0, 3, 4]))
   ·refine Y.al H rfl rfl ?_
    intro g9 w H
    refine OPS.nil ⟨H.rx [3, 4], ?_⟩
    rw [← hQ]; exact qd (s33 g21 g25 g9 w (H.rx [1, 2, 0, 3, 4]))
   ·refine Y.al H rfl rfl ?_
    intro g10 w H
    refine OPS.nil ⟨H.rx [3, 4], ?_⟩
    rw [← hQ]; exact qd (s34 g21 g25 g10 w (H.rx [1, 2, 0, 3, 4]))
  have s13 : ∀ g21 g8 : Nat, DQ Q 7 (bb 18 6135) w0 [] ([nI g21 n, nQ 175 g8 none 0] ++ nO g5 g3 n A B Ap l.length on.length pots.length cap cap2 capp) (upd (upd e0 21 (vS g21 n)) 8 (vP g8)) := by
   intro g21 g8 w H; rw [hQ]
   refine Y.A [3, 11, 13, 14] rfl ⟨⟨_, rfl, ?_⟩, ⟨_, rfl, ?_⟩, ⟨_, rfl, ?_⟩, ⟨_, rfl, ?_⟩, trivial⟩
   ·refine Y.M H rfl ?_
    intro g17 w H
    refine OPS.nil ⟨H.rx [3, 4], ?_⟩
    rw [← hQ, uc 8 17, uc 21 17]; exact qd (s23 g17 g21 g8 w (H.rx [0, 1, 2, 3, 4]))
   ·refine Y.M H rfl ?_
    intro g25 w H
    refine OPS.nil ⟨H.rx [3, 4], ?_⟩
    rw [← hQ, uc 8 25]; exact qd (s32 g21 g25 g8 w (H.rx [1, 0, 2, 3, 4]))
   ·refine Y.al H rfl rfl ?_
    intro g9 w H
    refine OPS.nil ⟨H.rx [3, 4], ?_⟩
    rw [← hQ]; exact qd (s35 g21 g8 g9 w (H.rx [1, 2, 0, 3, 4]))
   ·refine Y.al H rfl rfl ?_
    intro g10 w H
    refine OPS.nil ⟨H.rx [3, 4], ?_⟩
    rw [← hQ]; exact qd (s36 g21 g8 g10 w (H.rx [1, 2, 0, 3, 4]))
  have s14 : ∀ g21 g9 : Nat, DQ Q 7 (bb 18 10231) w0 [] ([nI g21 n, nQ 32 g9 none 0] ++ nO g5 g3 n A B Ap l.length on.length pots.length cap cap2 capp) (upd (upd e0 21 (vS g21 n)) 9 (vP g9)) := by
   intro g21 g9 w H; rw [hQ]
   refine Y.A [3, 11, 12, 14] rfl ⟨⟨_, rfl, ?_⟩, ⟨_, rfl, ?_⟩, ⟨_, rfl, ?_⟩, ⟨_, rfl, ?_⟩, trivial⟩
   ·refine Y.M H rfl ?_
    intro g17 w H
    refine OPS.nil ⟨H.rx [3, 4], ?_⟩
    rw [← hQ, uc 9 17, uc 21 17]; exact qd (s24 g17 g21 g9 w (H.rx [0, 1, 2, 3, 4]))
   ·refine Y.M H rfl ?_
    intro g25 w H
    refine OPS.nil ⟨H.rx [3, 4], ?_⟩
    rw [← hQ, uc 9 25]; exact qd (s33 g21 g25 g9 w (H.rx [1, 0, 2, 3, 4]))
   ·refine Y.al H rfl rfl ?_
    intro g8 w H
    refine OPS.nil ⟨H.rx [3, 4], ?_⟩
    rw [← hQ, uc 9 8]; exact qd (s35 g21 g8 g9 w (H.rx [1, 0, 2, 3, 4]))
   ·refine Y.al H rfl rfl ?_
    intro g10 w H
    refine OPS.nil ⟨H.rx [3, 4], ?_⟩
    rw [← hQ]; exact qd (s37 g21 g9 g10 w (H.rx [1, 2, 0, 3, 4]))
  have s15 : ∀ g21 g10 : Nat, DQ Q 7 (bb 18 18423) w0 [] ([nI g21 n, nQ 154 g10 none 0] ++ nO g5 g3 n A B Ap l.length on.length pots.length cap cap2 capp) (upd (upd e0 21 (vS g21 n)) 10 (vP g10)) := by
   intro g21 g10 w H; rw [hQ]
   refine Y.A [3, 11, 12, 13] rfl ⟨⟨_, rfl, ?_⟩, ⟨_, rfl, ?_⟩, ⟨_, rfl, ?_⟩, ⟨_, rfl, ?_⟩, trivial⟩
   ·refine Y.M H rfl ?_
    intro g17 w H
    refine OPS.nil ⟨H.rx [3, 4], ?_⟩
    rw [← hQ, uc 10 17, uc 21 17]; exact qd (s25 g17 g21 g10 w (H.rx [0, 1, 2, 3, 4]))
   ·refine Y.M H rfl ?_
    intro g25 w H
    refine OPS.nil ⟨H.rx [3, 4], ?_⟩
    rw [← hQ, uc 10 25]; exact qd (s34 g21 g25 g10 w (H.rx [1, 0, 2, 3, 4]))
   ·refine Y.al H rfl rfl ?_
    intro g8 w H
    refine OPS.nil ⟨H.rx [3, 4], ?_⟩
    rw [← hQ, uc 10 8]; exact qd (s36 g21 g8 g10 w (H.rx [1, 0, 2, 3, 4]))
   ·refine Y.al H rfl rfl ?_
    intro g9 w H
    refine OPS.nil ⟨H.rx [3, 4], ?_⟩
    rw [← hQ, uc 10 9]; exact qd (s37 g21 g9 g10 w (H.rx [1, 0, 2, 3, 4]))
  have s16 : ∀ g25 g8 : Nat, DQ Q 7 (bb 18 8055) w0 [] ([nD g25 n, nQ 175 g8 none 0] ++ nO g5 g3 n A B Ap l.length on.length pots.length cap cap2 capp) (upd (upd e0 25 (vS g25 n)) 8 (vP g8)) := by
   intro g25 g8 w H; rw [hQ]
   refine Y.A [3, 7, 13, 14] rfl ⟨⟨_, rfl, ?_⟩, ⟨_, rfl, ?_⟩, ⟨_, rfl, ?_⟩, ⟨_, rfl, ?_⟩, trivial⟩
   ·refine Y.M H rfl ?_
    intro g17 w H
    refine OPS.nil ⟨H.rx [3, 4], ?_⟩
    rw [← hQ, uc 8 17, uc 25 17]; exact qd (s26 g17 g25 g8 w (H.rx [0, 1, 2, 3, 4]))
   ·refine Y.M H rfl ?_
    intro g21 w H
    refine OPS.nil ⟨H.rx [3, 4], ?_⟩
    rw [← hQ, uc 8 21, uc 25 21]; exact qd (s32 g21 g25 g8 w (H.rx [0, 1, 2, 3, 4]))
   ·refine Y.al H rfl rfl ?_
    intro g9 w H
    refine OPS.nil ⟨H.rx [3, 4], ?_⟩
    rw [← hQ]; exact qd (s38 g25 g8 g9 w (H.rx [1, 2, 0, 3, 4]))
   ·refine Y.al H rfl rfl ?_
    intro g10 w H
    refine OPS.nil ⟨H.rx [3, 4], ?_⟩
    rw [← hQ]; exact qd (s39 g25 g8 g10 w (H.rx [1, 2, 0, 3, 4]))
  have s17 : ∀ g25 g9 : Nat, DQ Q 7 (bb 18 12151) w0 [] ([nD g25 n, nQ 32 g9 none 0] ++ nO g5 g3 n A B Ap l.length on.length pots.length cap cap2 capp) (upd (upd e0 25 (vS g25 n)) 9 (vP g9)) := by
   intro g25 g9 w H; rw [hQ]
   refine Y.A [3, 7, 12, 14] rfl ⟨⟨_, rfl, ?_⟩, ⟨_, rfl, ?_⟩, ⟨_, rfl, ?_⟩, ⟨_, rfl, ?_⟩, trivial⟩
   ·refine Y.M H rfl ?_
    intro g17 w H
    refine OPS.nil ⟨H.rx [3, 4], ?_⟩
    rw [← hQ, uc 9 17, uc 25 17]; exact qd (s27 g17 g25 g9 w (H.rx [0, 1, 2, 3, 4]))
   ·refine Y.M H rfl ?_
    intro g21 w H
    refine OPS.nil ⟨H.rx [3, 4], ?_⟩
    rw [← hQ, uc 9 21, uc 25 21]; exact qd (s33 g21 g25 g9 w (H.rx [0, 1, 2, 3, 4]))
   ·refine Y.al H rfl rfl ?_
    intro g8 w H
    refine OPS.nil ⟨H.rx [3, 4], ?_⟩
    rw [← hQ, uc 9 8]; exact qd (s38 g25 g8 g9 w (H.rx [1, 0, 2, 3, 4]))
   ·refine Y.al H rfl rfl ?_
    intro g10 w H
    refine OPS.nil ⟨H.rx [3, 4], ?_⟩
    rw [← hQ]; exact qd (s40 g25 g9 g10 w (H.rx [1, 2, 0, 3, 4]))
  have s18 : ∀ g25 g10 : Nat, DQ Q 7 (bb 18 20343) w0 [] ([nD g25 n, nQ 154 g10 none 0] ++ nO g5 g3 n A B Ap l.length on.length pots.length cap cap2 capp) (upd (upd e0 25 (vS g25 n)) 10 (vP g10)) := by
   intro g25 g10 w H; rw [hQ]
   refine Y.A [3, 7, 12, 13] rfl ⟨⟨_, rfl, ?_⟩, ⟨_, rfl, ?_⟩, ⟨_, rfl, ?_⟩, ⟨_, rfl, ?_⟩, trivial⟩
   ·refine Y.M H rfl ?_
    intro g17 w H
    refine OPS.nil ⟨H.rx [3, 4], ?_⟩
    rw [← hQ, uc 10 17, uc 25 17]; exact qd (s28 g17 g25 g10 w (H.rx [0, 1, 2, 3, 4]))
   ·refine Y.M H rfl ?_
    intro g21 w H
    refine OPS.nil ⟨H.rx [3, 4], ?_⟩
    rw [← hQ, uc 10 21, uc 25 21]; exact qd (s34 g21 g25 g10 w (H.rx [0, 1, 2, 3, 4]))
   ·refine Y.al H rfl rfl ?_
    intro g8 w H
    refine OPS.nil ⟨H.rx [3, 4], ?_⟩
    rw [← hQ, uc 10 8]; exact qd (s39 g25 g8 g10 w (H.rx [1, 0, 2, 3, 4]))
   ·refine Y.al H rfl rfl ?_
    intro g9 w H
    refine OPS.nil ⟨H.rx [3, 4], ?_⟩
    rw [← hQ, uc 10 9]; exact qd (s40 g25 g9 g10 w (H.rx [1, 0, 2, 3, 4]))
  have s19 : ∀ g8 g9 : Nat, DQ Q 7 (bb 18 14199) w0 [] ([nQ 175 g8 none 0, nQ 32 g9 none 0] ++ nO g5 g3 n A B Ap l.length on.length pots.length cap cap2 capp) (upd (upd e0 8 (vP g8)) 9 (vP g9)) := by
   intro g8 g9 w H; rw [hQ]
   refine Y.A [3, 7, 11, 14] rfl ⟨⟨_, rfl, ?_⟩, ⟨_, rfl, ?_⟩, ⟨_, rfl, ?_⟩, ⟨_, rfl, ?_⟩, trivial⟩
   ·refine Y.M H rfl ?_
    intro g17 w H
    refine OPS.nil ⟨H.rx [3, 4], ?_⟩
    rw [← hQ, uc 9 17, uc 8 17]; exact qd (s29 g17 g8 g9 w (H.rx [0, 1, 2, 3, 4]))
   ·refine Y.M H rfl ?_
    intro g21 w H
    refine OPS.nil ⟨H.rx [3, 4], ?_⟩
    rw [← hQ, uc 9 21, uc 8 21]; exact qd (s35 g21 g8 g9 w (H.rx [0, 1, 2, 3, 4]))
   ·refine Y.M H rfl ?_
    intro g25 w H
    refine OPS.nil ⟨H.rx [3, 4], ?_⟩
    rw [← hQ, uc 9 25, uc 8 25]; exact qd (s38 g25 g8 g9 w (H.rx [0, 1, 2, 3, 4]))
   ·refine Y.al H rfl rfl ?_
    intro g10 w H
    refine OPS.nil ⟨H.rx [3, 4], ?_⟩
    rw [← hQ]; exact qd (s41 g8 g9 g10 w (H.rx [1, 2, 0, 3, 4]))
  have s20 : ∀ g8 g10 : Nat, DQ Q 7 (bb 18 22391) w0 [] ([nQ 175 g8 none 0, nQ 154 g10 none 0] ++ nO g5 g3 n A B Ap l.length on.length pots.length cap cap2 capp) (upd (upd e0 8 (vP g8)) 10 (vP g10)) := by
   intro g8 g10 w H; rw [hQ]
   refine Y.A [3, 7, 11, 13] rfl ⟨⟨_, rfl, ?_⟩, ⟨_, rfl, ?_⟩, ⟨_, rfl, ?_⟩, ⟨_, rfl, ?_⟩, trivial⟩
   ·refine Y.M H rfl ?_
    intro g17 w H
    refine OPS.nil ⟨H.rx [3, 4], ?_⟩
    rw [← hQ, uc 10 17, uc 8 17]; exact qd (s30 g17 g8 g10 w (H.rx [0, 1, 2, 3, 4]))
   ·refine Y.M H rfl ?_
    intro g21 w H
    refine OPS.nil ⟨H.rx [3, 4], ?_⟩
    rw [← hQ, uc 10 21, uc 8 21]; exact qd (s36 g21 g8 g10 w (H.rx [0, 1, 2, 3, 4]))
   ·refine Y.M H rfl ?_
    intro g25 w H
    refine OPS.nil ⟨H.rx [3, 4], ?_⟩
    rw [← hQ, uc 10 25, uc 8 25]; exact qd (s39 g25 g8 g10 w (H.rx [0, 1, 2, 3, 4]))
   ·refine Y.al H rfl rfl ?_
    intro g9 w H
    refine OPS.nil ⟨H.rx [3, 4], ?_⟩
    rw [← hQ, uc 10 9]; exact qd (s41 g8 g9 g10 w (H.rx [1, 0, 2, 3, 4]))
  have s21 : ∀ g9 g10 : Nat, DQ Q 7 (bb 18 26487) w0 [] ([nQ 32 g9 none 0, nQ 154 g10 none 0] ++ nO g5 g3 n A B Ap l.length on.length pots.length cap cap2 capp) (upd (upd e0 9 (vP g9)) 10 (vP g10)) := by
   intro g9 g10 w H; rw [hQ]
   refine Y.A [3, 7, 11, 12] rfl ⟨⟨_, rfl, ?_⟩, ⟨_, rfl, ?_⟩, ⟨_, rfl, ?_⟩, ⟨_, rfl, ?_⟩, trivial⟩
   ·refine Y.M H rfl ?_
    intro g17 w H
    refine OPS.nil ⟨H.rx [3, 4], ?_⟩
    rw [← hQ, uc 10 17, uc 9 17]; exact qd (s31 g17 g9 g10 w (H.rx [0, 1, 2, 3, 4]))
   ·refine Y.M H rfl ?_
    intro g21 w H
    refine OPS.nil ⟨H.rx [3, 4], ?_⟩
    rw [← hQ, uc 10 21, uc 9 21]; exact qd (s37 g21 g9 g10 w (H.rx [0, 1, 2, 3, 4]))
   ·refine Y.M H rfl ?_
    intro g25 w H
    refine OPS.nil ⟨H.rx [3, 4], ?_⟩
    rw [← hQ, uc 10 25, uc 9 25]; exact qd (s40 g25 g9 g10 w (H.rx [0, 1, 2, 3, 4]))
   ·refine Y.al H rfl rfl ?_
    intro g8 w H
    refine OPS.nil ⟨H.rx [3, 4], ?_⟩
    rw [← hQ, uc 10 8, uc 9 8]; exact qd (s41 g8 g9 g10 w (H.rx [0, 1, 2, 3, 4]))
  clear s22 s23 s24 s25 s26 s27 s28 s29 s30 s31 s32 s33 s34 s35 s36 s37 s38 s39 s40 s41
  have s1 : ∀ g17 : Nat, DQ Q 8 (bb 18 1919) w0 [] ([nS g17 n] ++ nO g5 g3 n A B Ap l.length on.length pots.length cap cap2 capp) (upd e0 17 (vS g17 n)) := by
   intro g17 w H; rw [hQ]
   refine Y.A [7, 11, 12, 13, 14] rfl ⟨⟨_, rfl, ?_⟩, ⟨_, rfl, ?_⟩, ⟨_, rfl, ?_⟩, ⟨_, rfl, ?_⟩, ⟨_, rfl, ?_⟩, trivial⟩
   ·refine Y.M H rfl ?_
    intro g21 w H
    refine OPS.nil ⟨H.rx [2, 3], ?_⟩
    rw [← hQ]; exact qd (s7 g17 g21 w (H.rx [1, 0, 2, 3]))
   ·refine Y.M H rfl ?_
    intro g25 w H
    refine OPS.nil ⟨H.rx [2, 3], ?_⟩
    rw [← hQ]; exact qd (s8 g17 g25 w (H.rx [1, 0, 2, 3]))
   ·refine Y.al H rfl rfl ?_
    intro g8 w H
    refine OPS.nil ⟨H.rx [2, 3], ?_⟩
    rw [← hQ]; exact qd (s9 g17 g8 w (H.rx [1, 0, 2, 3]))
   ·refine Y.al H rfl rfl ?_
    intro g9 w H
    refine OPS.nil ⟨H.rx [2, 3], ?_⟩
    rw [← hQ]; exact qd (s10 g17 g9 w (H.rx [1, 0, 2, 3]))
   ·refine Y.al H rfl rfl ?_
    intro g10 w H
    refine OPS.nil ⟨H.rx [2, 3], ?_⟩
    rw [← hQ]; exact qd (s11 g17 g10 w (H.rx [1, 0, 2, 3]))
  have s2 : ∀ g21 : Nat, DQ Q 8 (bb 18 2039) w0 [] ([nI g21 n] ++ nO g5 g3 n A B Ap l.length on.length pots.length cap cap2 capp) (upd e0 21 (vS g21 n)) := by
   intro g21 w H; rw [hQ]
   refine Y.A [3, 11, 12, 13, 14] rfl ⟨⟨_, rfl, ?_⟩, ⟨_, rfl, ?_⟩, ⟨_, rfl, ?_⟩, ⟨_, rfl, ?_⟩, ⟨_, rfl, ?_⟩, trivial⟩
   ·refine Y.M H rfl ?_
    intro g17 w H
    refine OPS.nil ⟨H.rx [2, 3], ?_⟩
    rw [← hQ, uc 21 17]; exact qd (s7 g17 g21 w (H.rx [0, 1, 2, 3]))
   ·refine Y.M H rfl ?_
    intro g25 w H
    refine OPS.nil ⟨H.rx [2, 3], ?_⟩
    rw [← hQ]; exact qd (s12 g21 g25 w (H.rx [1, 0, 2, 3]))
   ·refine Y.al H rfl rfl ?_
    intro g8 w H
    refine OPS.nil ⟨H.rx [2, 3], ?_⟩
    rw [← hQ]; exact qd (s13 g21 g8 w (H.rx [1, 0, 2, 3]))
   ·refine Y.al H rfl rfl ?_
    intro g9 w H
    refine OPS.nil ⟨H.rx [2, 3], ?_⟩
    rw [← hQ]; exact qd (s14 g21 g9 w (H.rx [1, 0, 2, 3]))
   ·refine Y.al H rfl rfl ?_
    intro g10 w H
    refine OPS.nil ⟨H.rx [2, 3], ?_⟩
    rw [← hQ]; exact qd (s15 g21 g10 w (H.rx [1, 0, 2, 3]))
  have s3 : ∀ g25 : Nat, DQ Q 8 (bb 18 3959) w0 [] ([nD g25 n] ++ nO g5 g3 n A B Ap l.length on.length pots.length cap cap2 capp) (upd e0 25 (vS g25 n)) := by
   intro g25 w H; rw [hQ]
   refine Y.A [3, 7, 12, 13, 14] rfl ⟨⟨_, rfl, ?_⟩, ⟨_, rfl, ?_⟩, ⟨_, rfl, ?_⟩, ⟨_, rfl, ?_⟩, ⟨_, rfl, ?_⟩, trivial⟩
   ·refine Y.M H rfl ?_
    intro g17 w H
    refine OPS.nil ⟨H.rx [2, 3], ?_⟩
    rw [← hQ, uc 25 17]; exact qd (s8 g17 g25 w (H.rx [0, 1, 2, 3]))
   ·refine Y.M H rfl ?_
    intro g21 w H
    refine OPS.nil ⟨H.rx [2, 3], ?_⟩
    rw [← hQ, uc 25 21]; exact qd (s12 g21 g25 w (H.rx [0, 1, 2, 3]))
   ·refine Y.al H rfl rfl ?_
    intro g8 w H
    refine OPS.nil ⟨H.rx [2, 3], ?_⟩
    rw [← hQ]; exact qd (s16 g25 g8 w (H.rx [1, 0, 2, 3]))
   ·refine Y.al H rfl rfl ?_
    intro g9 w H
    refine OPS.nil ⟨H.rx [2, 3], ?_⟩
    rw [← hQ]; exact qd (s17 g25 g9 w (H.rx [1, 0, 2, 3]))
   ·refine Y.al H rfl rfl ?_
    intro g10 w H
    refine OPS.nil ⟨H.rx [2, 3], ?_⟩
    rw [← hQ]; exact qd (s18 g25 g10 w (H.rx [1, 0, 2, 3]))
  have s4 : ∀ g8 : Nat, DQ Q 8 (bb 18 6007) w0 [] ([nQ 175 g8 none 0] ++ nO g5 g3 n A B Ap l.length on.length pots.length cap cap2 capp) (upd e0 8 (vP g8)) := by
   intro g8 w H; rw [hQ]
   refine Y.A [3, 7, 11, 13, 14] rfl ⟨⟨_, rfl, ?_⟩, ⟨_, rfl, ?_⟩, ⟨_, rfl, ?_⟩, ⟨_, rfl, ?_⟩, ⟨_, rfl, ?_⟩, trivial⟩
   ·refine Y.M H rfl ?_
    intro g17 w H
    refine OPS.nil ⟨H.rx [2, 3], ?_⟩
    rw [← hQ, uc 8 17]; exact qd (s9 g17 g8 w (H.rx [0, 1, 2, 3]))
   ·refine Y.M H rfl ?_
    intro g21 w H
    refine OPS.nil ⟨H.rx [2, 3], ?_⟩
    rw [← hQ, uc 8 21]; exact qd (s13 g21 g8 w (H.rx [0, 1, 2, 3]))
   ·refine Y.M H rfl ?_
    intro g25 w H
    refine OPS.nil ⟨H.rx [2, 3], ?_⟩
    rw [← hQ, uc 8 25]; exact qd (s16 g25 g8 w (H.rx [0, 1, 2, 3]))
   ·refine Y.al H rfl rfl ?_
    intro g9 w H
    refine OPS.nil ⟨H.rx [2, 3], ?_⟩
    rw [← hQ]; exact qd (s19 g8 g9 w (H.rx [1, 0, 2, 3]))
   ·refine Y.al H rfl rfl ?_
    intro g10 w H
    refine OPS.nil ⟨H.rx [2, 3], ?_⟩
    rw [← hQ]; exact qd (s20 g8 g10 w (H.rx [1, 0, 2, 3]))
  have s5 : ∀ g9 : Nat, DQ Q 8 (bb 18 10103) w0 [] ([nQ 32 g9 none 0] ++ nO g5 g3 n A B Ap l.length on.length pots.length cap cap2 capp) (upd e0 9 (vP g9)) := by
   intro g9 w H; rw [hQ]
   refine Y.A [3, 7, 11, 12, 14] rfl ⟨⟨_, rfl, ?_⟩, ⟨_, rfl, ?_⟩, ⟨_, rfl, ?_⟩, ⟨_, rfl, ?_⟩, ⟨_, rfl, ?_⟩, trivial⟩
   ·refine Y.M H rfl ?_
    intro g17 w H
    refine OPS.nil ⟨H.rx [2, 3], ?_⟩
    rw [← hQ, uc 9 17]; exact qd (s10 g17 g9 w (H.rx [0, 1, 2, 3]))
   ·refine Y.M H rfl ?_
    intro g21 w H
    refine OPS.nil ⟨H.rx [2, 3], ?_⟩
    rw [← hQ, uc 9 21]; exact qd (s14 g21 g9 w (H.rx [0, 1, 2, 3]))
   ·refine Y.M H rfl ?_
    intro g25 w H
    refine OPS.nil ⟨H.rx [2, 3], ?_⟩
    rw [← hQ, uc 9 25]; exact qd (s17 g25 g9 w (H.rx [0, 1, 2, 3]))
   ·refine Y.al H rfl rfl ?_
    intro g8 w H
    refine OPS.nil ⟨H.rx [2, 3], ?_⟩
    rw [← hQ, uc 9 8]; exact qd (s19 g8 g9 w (H.rx [0, 1, 2, 3]))
   ·refine Y.al H rfl rfl ?_
    intro g10 w H
    refine OPS.nil ⟨H.rx [2, 3], ?_⟩
    rw [← hQ]; exact qd (s21 g9 g10 w (H.rx [1, 0, 2, 3]))
  have s6 : ∀ g10 : Nat, DQ Q 8 (bb 18 18295) w0 [] ([nQ 154 g10 none 0] ++ nO g5 g3 n A B Ap l.length on.length pots.length cap cap2 capp) (upd e0 10 (vP g10)) := by
   intro g10 w H; rw [hQ]
   refine Y.A [3, 7, 11, 12, 13] rfl ⟨⟨_, rfl, ?_⟩, ⟨_, rfl, ?_⟩, ⟨_, rfl, ?_⟩, ⟨_, rfl, ?_⟩, ⟨_, rfl, ?_⟩, trivial⟩
   ·refine Y.M H rfl ?_
    intro g17 w H
    refine OPS.nil ⟨H.rx [2, 3], ?_⟩
    rw [← hQ, uc 10 17]; exact qd (s11 g17 g10 w (H.rx [0, 1, 2, 3]))
   ·refine Y.M H rfl ?_
    intro g21 w H
    refine OPS.nil ⟨H.rx [2, 3], ?_⟩
    rw [← hQ, uc 10 21]; exact qd (s15 g21 g10 w (H.rx [0, 1, 2, 3]))
   ·refine Y.M H rfl ?_
    intro g25 w H
    refine OPS.nil ⟨H.rx [2, 3], ?_⟩
    rw [← hQ, uc 10 25]; exact qd (s18 g25 g10 w (H.rx [0, 1, 2, 3]))
   ·refine Y.al H rfl rfl ?_
    intro g8 w H
    refine OPS.nil ⟨H.rx [2, 3], ?_⟩
    rw [← hQ, uc 10 8]; exact qd (s20 g8 g10 w (H.rx [0, 1, 2, 3]))
   ·refine Y.al H rfl rfl ?_
    intro g9 w H
    refine OPS.nil ⟨H.rx [2, 3], ?_⟩
    rw [← hQ, uc 10 9]; exact qd (s21 g9 g10 w (H.rx [0, 1, 2, 3]))
  clear s7 s8 s9 s10 s11 s12 s13 s14 s15 s16 s17 s18 s19 s20 s21
  have s0 : DQ Q 9 (bb 18 1911) w0 [] ([] ++ nO g5 g3 n A B Ap l.length on.length pots.length cap cap2 capp) e0 := by
   intro w H; rw [hQ]
   refine Y.A [3, 7, 11, 12, 13, 14] rfl ⟨⟨_, rfl, ?_⟩, ⟨_, rfl, ?_⟩, ⟨_, rfl, ?_⟩, ⟨_, rfl, ?_⟩, ⟨_, rfl, ?_⟩, ⟨_, rfl, ?_⟩, trivial⟩
   ·refine Y.M H rfl ?_
    intro g17 w H
    refine OPS.nil ⟨H.rx [1, 2], ?_⟩
    rw [← hQ]; exact qd (s1 g17 w (H.rx [0, 1, 2]))
   ·refine Y.M H rfl ?_
    intro g21 w H
    refine OPS.nil ⟨H.rx [1, 2], ?_⟩
    rw [← hQ]; exact qd (s2 g21 w (H.rx [0, 1, 2]))
   ·refine Y.M H rfl ?_
    intro g25 w H
    refine OPS.nil ⟨H.rx [1, 2], ?_⟩
    rw [← hQ]; exact qd (s3 g25 w (H.rx [0, 1, 2]))
   ·refine Y.al H rfl rfl ?_
    intro g8 w H
    refine OPS.nil ⟨H.rx [1, 2], ?_⟩
    rw [← hQ]; exact qd (s4 g8 w (H.rx [0, 1, 2]))
   ·refine Y.al H rfl rfl ?_
    intro g9 w H
    refine OPS.nil ⟨H.rx [1, 2], ?_⟩
    rw [← hQ]; exact qd (s5 g9 w (H.rx [0, 1, 2]))
   ·refine Y.al H rfl rfl ?_
    intro g10 w H
    refine OPS.nil ⟨H.rx [1, 2], ?_⟩
    rw [← hQ]; exact qd (s6 g10 w (H.rx [0, 1, 2]))
  exact s0 w H
 clear H
 rintro u w ⟨gS, gI, gD, g8, g9, g10, h8, h9, h10, H⟩
 refine WP.know (t := 8) h8 (WP.know (t := 9) h9 (WP.know (t := 10) h10 ?_))
 refine Y.qr<|Y.J H 3 rfl<|Y.a rfl<|Y.a rfl<|Y.v (Ev.build (jdU rfl rfl rfl))<|Y.U rfl ?_
 have hpu : jam (mkL n (y2 default)) (0 + s * 6) (y2 ⟨s, -1, 0, false, true, 0⟩) = (jad n s).flatMap y2 := by rw [Nat.zero_add, jgh]; exact jb0 jaj (List.replicate n default) s ⟨s, -1, 0, false, true, 0⟩ (by simpa using hs)
 refine OPS.store (vs := y2 ⟨s, -1, 0, false, true, 0⟩) 0 _ rfl rfl rfl (j4 rfl) rfl (cA rfl) rfl rfl H rfl (by simp only [jdm, jaj]; omega) ?_
 clear H; intro w H
 simp only [List.set_cons_zero, List.set_cons_succ] at H
 rw [hpu] at H
 refine Y.z<|Y.qr<|Y.c2 31 rfl (qNew w) ?_
 rintro _ w ⟨gq, rfl, Hc⟩
 refine ⟨_, rfl, ?_⟩
 replace H := SH.call (Lv := []) (by simpa using H) Hc
 clear Hc
 refine Y.al H rfl rfl ?_
 clear H; intro g11 w H
 refine Y.ss 0 H rfl (cP rfl) rfl ?_
 clear H; intro w H
 refine Y.z<|Y.q ?_
 replace H := H.reidx (L' := [⟨g11, 198, [.pointer (some ⟨gq, 0, none⟩)]⟩, ⟨gS, 179, (jad n s).flatMap y2⟩, ⟨gI, 3, mkL n [I 0]⟩, ⟨gD, 4, mkL n [Bo false]⟩, ⟨g8, 175, [.slice (some ⟨gS, 0, none⟩) n n]⟩, ⟨g9, 32, [.slice (some ⟨gI, 0, none⟩) n n]⟩, ⟨g10, 154, [.slice (some ⟨gD, 0, none⟩) n n]⟩, ⟨g5, 32, [.slice Ap pots.length capp]⟩, ⟨g3, 174, [I n, .slice A l.length cap, .slice B on.length cap2]⟩] ++ qLv gq none 0 [] 0 []) [0, 1, 2, 3, 4, 5, 6, 7, 8, 9] (by decide) rfl
 refine Y.r<|Y.J H 0 rfl<|Y.a rfl<|Y.v (Ev.build (jkp rfl))<|Y.c2 35 rfl (jkW gq 0 none 0 s 0 [] [] w (qLv gq none 0 [] 0 [] |>.map (·.g)) OwnS.nil jaM.nil (by simp) (by omega) (H.restart Y.sr)) ?_
 rintro _ w ⟨rfl, Aq, capq, h1, Lo, hpm, hh1, hO1, Hc⟩
 refine ⟨_, rfl, ?_⟩
 obtain rfl : h1 = [⟨s, 0, 0⟩] := List.perm_singleton.1 hpm
 replace H := SH.call (Lv := qLv gq none 0 [] 0 []) H Hc
 clear Hc
 have H2 : SH w0 [] w (⟨g3, 174, [I n, .slice A l.length cap, .slice B on.length cap2]⟩ :: jls ⟨0, g10, g5, g8, g9, g11, gS, gI, gD, gq⟩ n Ap pots.length capp (List.replicate n false) ⟨jad n s, List.replicate n 0, [⟨s, 0, 0⟩], 0 + 1, Aq, capq, Lo⟩) := by
  rw [jag (enc1 := I) n 0, jag (enc1 := Bo) n false] at H
  exact H.reidxT (L' := [_, _, _, _, _, _, _, _, _]) [8, 6, 7, 4, 5, 0, 3, 1, 2] (by decide) rfl
 replace H := H2
 clear H2
 refine Y.z<|WP.block<|WP.loop [6, 7, 12, 13, 36, 37, 38, 39, 40, 41, 42, 43, 44, 45, 46, 47, 48, 49, 50, 51, 52, 53, 54, 55, 56] (fun k _ w' => ∃ (st : NSt) (done : List Bool) (rk : Nat → Int) (D : Int) (x : Nat), SH w0 [] w' (⟨g3, 174, [I n, .slice A l.length cap, .slice B on.length cap2]⟩ :: jls ⟨0, g10, g5, g8, g9, g11, gS, gI, gD, gq⟩ n Ap pots.length capp done st) ∧ jg3 n st ∧ DI (pof pots) l on n s x (fun _ _ => True) st done rk D ∧ 0 ≤ st.p ∧ st.p ≤ 1 + 2000 * ((n : Int) - jaN done) ∧ (st.h.length : Int) ≤ st.p ∧ jaN done * 2000 + st.h.length ≤ k) (n * 2000 + 1) (⟨_, _, _, _, s, H, ⟨by simp [jad], by simp, hO1, hh1⟩, DI.init hs (by show pots.getD (s : Int).toNat 0 ≤ 0; rw [Int.toNat_natCast, hp0]; exact Int.le_refl _), by simp, by simp [jaN], by simp, by simp [jaN]⟩) ?_
 clear H hO1 hh1
 rintro k u w ⟨st, done, rk, D, x, H, hok, hdi, hp1, hp2, hp3, hk⟩
 unfold jls at H
 have hdl := hdi.olen
 have hon := jfW done
 have hhl : st.h.length ≤ 1000000 := by omega
 refine WP.block<|Y.qr<|Y.J H 5 rfl<|Y.c2 38 rfl (qPop2 gq st.cap st.A st.p st.h st.Lo w (qLv gq st.A st.cap st.h st.p st.Lo |>.map (·.g)) hok.own hok.heap hhl (H.restart (Y.sr.trans Y.sc))) ?_
 rintro _ w ⟨y, ok, h', Lo', rfl, hno, hyes, hh', hO', Hc⟩
 refine ⟨_, rfl, ?_⟩
 replace H := SH.call (Lv := qLv gq st.A st.cap st.h st.p st.Lo) (L1 := _ :: [_, _, _, _, _, _, _, _]) H Hc
 clear Hc
 refine Y.T rfl<|Y.G rfl<|Y.G rfl<|Y.al H rfl rfl ?_
 clear H; intro g12 w H
 refine Y.ss 0 H rfl (cA rfl) rfl ?_
 clear H; intro w H
 refine Y.aB rfl<|Y.z<|Y.qq<|Y.B rfl<|Y.v (Ev.not rfl)<|Y.z ?_
 refine WP.cond rfl (fun hc6 => ?_) (fun hc6 => ?_)
 ·have hok2 : ok = false := by simpa using hc6
  refine Y.q<|WP.rstill mixed (by kernel_rfl) H ?_
  clear H; intro w hbw7 H
  refine Y.J H 4 rfl<|Y.J H 5 rfl<|Y.aS rfl<|Y.aS rfl<|OPS.nil_s ?_
  refine WP.ret ⟨_, rfl, ?_⟩
  exact ⟨gS, gI, st.sts, st.dist, rk, rfl, hdi.near (hno hok2).1, H.reidx [8, 9] (by decide) rfl⟩
 have hok2 : ok = true := by simpa using hc6
 obtain ⟨hpm2, hmin⟩ := hyes hok2
 obtain ⟨v, hvn, hyv, hkv, hle⟩ := hdi.ent y (hpm2.subset (List.mem_cons_self ..))
 have hlen2 := hpm2.length_eq
 simp only [List.length_cons] at hlen2
 obtain ⟨yn, yd, yk⟩ := y
 simp only at hyv hle
 subst hyv
 simp only [ja9, jam, List.set_cons_zero, List.set_cons_succ, List.cons_append, List.nil_append] at H
 have hdv : dnB done v = done[v]'(by omega) := by simp [dnB, hdl, hvn]
 refine Y.k<|Y.qq ?_
 obtain ⟨_, _, e1, hdc⟩ := y9 H 7 rfl v (by omega)
 cases e1
 refine Y.J H 2 rfl<|Y.W H 0 rfl<|Y.I rfl<|Y.v (Y.c (by assumption) rfl) ?_
 refine Y.z ?_
 refine WP.cond rfl (fun hc8 => ?_) (fun hc8 => ?_)
 ·have hnext : ∃ g', g' < k ∧ ∃ (st : NSt) (done : List Bool) (rk : Nat → Int) (D : Int) (x : Nat), SH w0 [] w (⟨g3, 174, [I n, .slice A l.length cap, .slice B on.length cap2]⟩ :: jls ⟨0, g10, g5, g8, g9, g11, gS, gI, gD, gq⟩ n Ap pots.length capp done st) ∧ jg3 n st ∧ DI (pof pots) l on n s x (fun _ _ => True) st done rk D ∧ 0 ≤ st.p ∧ st.p ≤ 1 + 2000 * ((n : Int) - jaN done) ∧ (st.h.length : Int) ≤ st.p ∧ jaN done * 2000 + st.h.length ≤ g' :=
   ⟨jaN done * 2000 + h'.length, by omega, ⟨st.sts, st.dist, h', st.p, st.A, st.cap, Lo'⟩, done, rk, D, x, H.drop Y.sc, ⟨hok.slen, hok.dlen, hO', hh'⟩, hdi.stale hpm2 rfl (by rw [hdv]; exact hc8), hp1, hp2, by show (h'.length : Int) ≤ st.p; omega, Nat.le_refl _⟩
  refine WP.exit<|XB.hit ?_
  exact ⟨Y.ag, hnext⟩
 obtain ⟨hyd, hdi2⟩ := hdi.fresh hpm2 hmin rfl hvn (by rw [hdv]; exact hc8) (A := st.A) (cap := st.cap) (Lo := Lo') (q := st.p)
 simp only at hyd hdi2
 have hopen := jb1 done v (by omega) (by show dnB done v = false; rw [hdv]; exact hc8)
 have hdx : dnB (done.set v true) v = true := by rw [jc3 (by omega), if_pos rfl]
 have hbdv := hdi2.bd v hvn hdx
 have hrkv := (hdi2.dn v hvn hdx).2.2
 have hnnv := hdi2.nn v hvn hkv
 have hpv : pof pots v = pots[v]'(by omega) := by simp [pof, hpl, hvn]
 have hpv2 := hpb v (by omega)
 simp only at hbdv hrkv hnnv
 refine Y.k<|Y.qr<|Y.J H 2 rfl<|Y.W H 0 rfl<|Y.I rfl ?_
 have hpu9 : jam (done.map Bo) (0 + v) [Bo true] = (done.set v true).map Bo := by rw [Nat.zero_add]; exact jae done v true
 refine OPS.store (vs := [Bo true]) 7 _ rfl rfl rfl (j4 rfl) rfl (cB rfl) rfl rfl H rfl (by simp only [List.length_map, hdl]; omega) ?_
 clear H; intro w H
 simp only [List.set_cons_zero, List.set_cons_succ] at H
 rw [hpu9] at H
 refine Y.z ?_
 have H2 : SH w0 [] w (⟨g3, 174, [I n, .slice A l.length cap, .slice B on.length cap2]⟩ :: nLv ⟨g12, g10, g5, g8, g9, g11, gS, gI, gD, gq⟩ n v yd Ap pots.length capp (done.set v true) ⟨st.sts, st.dist, h', st.p, st.A, st.cap, Lo'⟩) := H.reidxT (L := [_, _, _, _, _, _, _, _, _, _]) (L' := [_, _, _, _, _, _, _, _, _, _]) [1, 0, 2, 3, 4, 5, 6, 7, 8, 9] (by decide) rfl
 replace H := H2
 clear H2
 refine Y.r<|Y.O H 0 rfl<|Y.v (Ev.makeFunc) ?_
 generalize hst0 : (⟨st.sts, st.dist, h', st.p, st.A, st.cap, Lo'⟩ : NSt) = st0 at H hdi2
 have hni0 : NI (pof pots) l on n s v (fun i _ => i < 0) (done.set v true) (fun u => if u = v then (n : Int) - jaN done else rk u) yd (st.p.toNat + 2 * 0) (h'.length + 2 * 0) st0 := by
  subst hst0
  exact ⟨⟨hok.slen, hok.dlen, hO', hh'⟩, hdi2.pr fun _ _ _ _ _ _ _ h => absurd h (by omega), hyd, ⟨hp1, by show st.p ≤ _; omega⟩, by show (h'.length : Int) ≤ st.p; omega, by show h'.length ≤ _; omega⟩
 generalize hrk : (fun u => if u = v then (n : Int) - jaN done else rk u) = rk2 at hni0
 have hfr : ∀ g ∈ (nLv ⟨g12, g10, g5, g8, g9, g11, gS, gI, gD, gq⟩ n v yd Ap pots.length capp (done.set v true) st0).map (·.g), w0.heap.size ≤ g := fun g hg => H.fresh g (List.mem_cons_of_mem _ hg)
 have hA := hz.off (fun _ => by simp [arcCells]) hfr
 have hB := ho.off hfr
 have hP := hp.off hfr
 have hpw : k9 w Ap pots := hp.sh H
 have hvis : ∀ (i : Nat) (fw : Bool) (a b : Nat) (r cost : Int) (Pr : Nat → Bool → Prop) (mp mh : Nat) (s' : NSt) (w1 : World), NI (pof pots) l on n s v Pr (done.set v true) rk2 yd mp mh s' → jaZ (pof pots) l on i fw a b r (cost + pots.getD a 0 - pots.getD b 0) → a < n → b < n → mp ≤ 1000000 → mh ≤ 1000000 → -65536 ≤ cost → cost ≤ 65536 →
   SH w ((nLv ⟨g12, g10, g5, g8, g9, g11, gS, gI, gD, gq⟩ n v yd Ap pots.length capp (done.set v true) st0).map (·.g)) w1 (nLv ⟨g12, g10, g5, g8, g9, g11, gS, gI, gD, gq⟩ n v yd Ap pots.length capp (done.set v true) s') →
   SH w1 ((nLv ⟨g12, g10, g5, g8, g9, g11, gS, gI, gD, gq⟩ n v yd Ap pots.length capp (done.set v true) s').map (·.g)) w1 (nLv ⟨g12, g10, g5, g8, g9, g11, gS, gI, gD, gq⟩ n v yd Ap pots.length capp (done.set v true) s') →
   Calls Tryz.prog 137 ([I a, I b, I i, I r, I cost, .bool fw] ++ [Value.pointer (some ⟨g12, 0, none⟩), Value.pointer (some ⟨g10, 0, none⟩), Value.pointer (some ⟨g5, 0, none⟩), Value.pointer (some ⟨g8, 0, none⟩), Value.pointer (some ⟨g9, 0, none⟩), Value.pointer (some ⟨g11, 0, none⟩)]).toArray w1
    fun e w' => e = .returned (.tuple #[]) ∧ ∃ s'', NI (pof pots) l on n s v (fun j f => Pr j f ∨ (j = i ∧ f = fw)) (done.set v true) rk2 yd (mp + 1) (mh + 1) s'' ∧ SH w1 ((nLv ⟨g12, g10, g5, g8, g9, g11, gS, gI, gD, gq⟩ n v yd Ap pots.length capp (done.set v true) s').map (·.g)) w' (nLv ⟨g12, g10, g5, g8, g9, g11, gS, gI, gD, gq⟩ n v yd Ap pots.length capp (done.set v true) s'') := by
  intro i fw a b r cost Pr mp mh s' w1 hni hE ha hb h1 h2 h3 h4 Hw H1
  have hn1 := hni.p1
  have hn2 := hni.h2
  have hc := jkt ⟨g12, g10, g5, g8, g9, g11, gS, gI, gD, gq⟩ n v a b i yd r cost fw Ap capp pots (done.set v true) s' w1 _ hni.ok hpl (by simp [hdl]) ha hb
   (fun k hk => by
    obtain ⟨b', o', q1, q2⟩ := hpw k hk
    exact ⟨b', o', q1, Hw.ldS q2 (hP (List.ne_nil_of_length_pos (by omega)) b' o' q1)⟩)
   (fun k hk => by have := hpb k hk; omega) (by omega) (by omega) (by omega) (by omega) (Off.later hpw hP Hw) (by rw [hpl] at H1; exact H1)
  refine hc.mono fun e w' ⟨he, s'', hV, hok'', H''⟩ => ⟨he, s'', ⟨hok'', ?_, ?_, ?_, ?_, ?_⟩, by rw [hpl]; rw [hpl] at H''; exact H''⟩
  ·exact hni.di.visit hO hE hvn hdx hni.hD hb rfl (by simp [pof]) (by simp [pof]) h4 (by rw [← hni.hD]; exact hV)
  ·rw [hV.dist_x hdx (by rw [hni.ok.dlen]; exact hb)]; exact hni.hD
  ·rcases hV.cnt with ⟨q1, q2⟩ | ⟨q1, q2⟩ <;> omega
  ·have := hni.h1
   rcases hV.cnt with ⟨q1, q2⟩ | ⟨q1, q2⟩ <;> omega
  ·rcases hV.cnt with ⟨q1, q2⟩ | ⟨q1, q2⟩ <;> omega
 have hNF : ∀ (i : Nat) (h : i < l.length), ∃ a b : Nat, a < n ∧ b < n ∧ l[i].f = a ∧ l[i].t = b ∧ (0 ≤ l[i].cap ∧ l[i].cap ≤ 65536) ∧ (0 ≤ l[i].cost ∧ l[i].cost ≤ 65536) := fun i h => by
  obtain ⟨⟨q1, q2⟩, q3, q4⟩ := hN.nodes l[i] (List.getElem_mem h)
  have q5 := hN.caps l[i] (List.getElem_mem h)
  obtain ⟨a, ha⟩ := Int.eq_ofNat_of_zero_le q1
  obtain ⟨b, hb⟩ := Int.eq_ofNat_of_zero_le q3
  exact ⟨a, b, by omega, by omega, ha, hb, q5⟩
 have hpfi : ∀ (i : Nat) (h : i < l.length) (a b : Nat), l[i].f = a → l[i].t = b → rc (pof pots) l[i] = l[i].cost + pots.getD a 0 - pots.getD b 0 := fun i h a b ha hb => by
  unfold rc; rw [ha, hb]; simp [pof]
 have hll := hN.len
 have hmp : st.p.toNat ≤ 200000 := by omega
 have hcall := jka (fun s' => nLv ⟨g12, g10, g5, g8, g9, g11, gS, gI, gD, gq⟩ n v yd Ap pots.length capp (done.set v true) s') ((nLv ⟨g12, g10, g5, g8, g9, g11, gS, gI, gD, gq⟩ n v yd Ap pots.length capp (done.set v true) st0).map (·.g)) (fun j s' => NI (pof pots) l on n s v (fun i _ => i < j) (done.set v true) rk2 yd (st.p.toNat + 2 * j) (h'.length + 2 * j) s') (fun j s' => NI (pof pots) l on n s v (fun i fw => i < j ∨ (i = j ∧ fw = true)) (done.set v true) rk2 yd (st.p.toNat + 2 * j + 1) (h'.length + 2 * j + 1) s') 137 [.pointer (some ⟨g12, 0, none⟩), .pointer (some ⟨g10, 0, none⟩), .pointer (some ⟨g5, 0, none⟩), .pointer (some ⟨g8, 0, none⟩), .pointer (some ⟨g9, 0, none⟩), .pointer (some ⟨g11, 0, none⟩)] n A B l on cap cap2 st0 w rfl (hz.sh H) hA (ho.sh H) hB hlen (by omega) (fun i h => by obtain ⟨_, _, _, _, _, _, q1, q2⟩ := hNF i h; omega) (fun i h => by have q1 := hV.bd i (by omega) h; obtain ⟨_, _, _, _, _, _, q2, _⟩ := hNF i (by omega); omega) rfl (fun i h h2 s' w1 hni hlt Hw H1 => by
  obtain ⟨a, b, ha, hb, hfa, htb, hca, hco⟩ := hNF i h
  have hE : jaZ (pof pots) l on i true a b (l[i].cap - on[i]) (l[i].cost + pots.getD a 0 - pots.getD b 0) := ⟨h, h2, fun _ => ⟨hfa, htb, rfl, hlt, (hpfi i h a b hfa htb).symm⟩, fun q => by cases q⟩
  have hc := hvis i true a b (l[i].cap - on[i]) l[i].cost _ _ _ s' w1 hni hE ha hb (by omega) (by omega) (by omega) (by omega) Hw H1
  rw [hfa, htb]
  exact hc) (fun i h h2 s' hni hlt => hni.skip (fun j fw u v r w hE hp => by
   rcases hp with hp | ⟨rfl, rfl⟩
   ·exact hp
   ·obtain ⟨_, _, q, _⟩ := hE; exact absurd (q rfl).2.2.2.1 hlt) (by omega) (by omega)) (fun i h h2 s' w1 hni hlt Hw H1 => by
  obtain ⟨a, b, ha, hb, hfa, htb, hca, hco⟩ := hNF i h
  have hE : jaZ (pof pots) l on i false b a on[i] (-l[i].cost + pots.getD b 0 - pots.getD a 0) := ⟨h, h2, (fun q => by cases q), fun _ => ⟨htb, hfa, rfl, hlt, by have := hpfi i h a b hfa htb; omega⟩⟩
  have hc := hvis i false b a on[i] (-l[i].cost) _ _ _ s' w1 hni hE hb ha (by omega) (by omega) (by omega) (by omega) Hw H1
  rw [hfa, htb]
  refine hc.mono fun e w' ⟨he, s'', hn', H'⟩ => ⟨he, s'', hn'.skip (fun j fw _ _ _ _ _ hp => ?_) (by omega) (by omega), H'⟩
  rcases Nat.lt_succ_iff_lt_or_eq.1 hp with hp | rfl
  ·exact .inl (.inl hp)
  ·cases fw with
   | true => exact .inl (.inr ⟨rfl, rfl⟩)
   | false => exact .inr ⟨rfl, rfl⟩) (fun i h h2 s' hni hlt => hni.skip (fun j fw u v r w hE hp => by
   rcases Nat.lt_succ_iff_lt_or_eq.1 hp with hp | rfl
   ·exact .inl hp
   ·cases fw with
    | true => exact .inr ⟨rfl, rfl⟩
    | false => obtain ⟨_, _, _, q⟩ := hE; exact absurd (q rfl).2.2.2.1 hlt) (by omega) (by omega)) hni0 (H.restart Y.sc)
 refine Y.c2 56 rfl (hcall) ?_
 rintro _ w ⟨rfl, st2, hni2, Hc⟩
 refine ⟨_, rfl, ?_⟩
 replace H := SH.call (L1 := [_]) (Lv := nLv ⟨g12, g10, g5, g8, g9, g11, gS, gI, gD, gq⟩ n v yd Ap pots.length capp (done.set v true) st0) H Hc
 clear Hc
 have hnext : ∃ g', g' < k ∧ ∃ (st : NSt) (done : List Bool) (rk : Nat → Int) (D : Int) (x : Nat), SH w0 [] w (⟨g3, 174, [I n, .slice A l.length cap, .slice B on.length cap2]⟩ :: jls ⟨0, g10, g5, g8, g9, g11, gS, gI, gD, gq⟩ n Ap pots.length capp done st) ∧ jg3 n st ∧ DI (pof pots) l on n s x (fun _ _ => True) st done rk D ∧ 0 ≤ st.p ∧ st.p ≤ 1 + 2000 * ((n : Int) - jaN done) ∧ (st.h.length : Int) ≤ st.p ∧ jaN done * 2000 + st.h.length ≤ g' := by
  have q1 := hni2.p1
  have q2 := hni2.h1
  have q3 := hni2.h2
  exact ⟨jaN (done.set v true) * 2000 + st2.h.length, by omega, st2, done.set v true, rk2, yd, v, H.drop ((Y.sc).cons_cons _), hni2.ok, hni2.di.pr (fun i _ _ _ _ _ hE _ => hE.1), q1.1, by omega, q2, Nat.le_refl _⟩
 refine Y.z ?_
 exact ⟨Y.ag, hnext⟩
end Go.Proofs.YtgcokllbophkkaaGreat.Flo
namespace Go.Proofs.YtgcokllbophkkaaGreat.Flo
open Go Go.W Go.RowKit
theorem jdy : ∀ (l : List Arc) (on : List Int) (j : Nat) (h : j < l.length) (h2 : j < on.length), costOf (l.take (j + 1)) (on.take (j + 1)) = costOf (l.take j) (on.take j) + on[j] * l[j].cost
 | [], _, _, h, _ => by simp at h
 | _ :: _, [], _, _, h => by simp at h
 | a :: l, x :: on, 0, _, _ => by simp [costOf]
 | a :: l, x :: on, j + 1, h, h2 => by
  simp only [List.take_succ_cons, costOf, List.getElem_cons_succ]
  have := jdy l on j (by simpa using h) (by simpa using h2)
  rw [this]; omega
theorem jnw {x c : Int} (h0 : 0 ≤ x) (h1 : x ≤ 65536) (h2 : 0 ≤ c) (h3 : c ≤ 65536) : 0 ≤ x * c ∧ x * c ≤ 4294967296 :=
 ⟨Int.mul_nonneg h0 h2, Int.le_trans (Int.mul_le_mul h1 h3 h2 (by omega)) (by omega)⟩
theorem costOf_bd {n : Nat} {l : List Arc} {on : List Int} (hN : NetOk n l) (hV : jaP l on) : ∀ j, j ≤ l.length → 0 ≤ costOf (l.take j) (on.take j) ∧ costOf (l.take j) (on.take j) ≤ 4294967296 * j
 | 0, _ => by simp [costOf]
 | j + 1, h => by
  have ih := costOf_bd hN hV j (by omega)
  have hl := hV.len
  have h1 := hV.bd j (by omega) (by omega)
  have h2 := hN.caps l[j] (List.getElem_mem _)
  have h3 := jnw h1.1 (by omega) h2.2.1 h2.2.2
  rw [jdy l on j (by omega) (by omega)]
  omega
theorem jle (n : Nat) (A B : Option Addr) (l : List Arc) (on : List Int) (cap cap2 : Nat) (w0 : World) (hN : NetOk n l) (hV : jaP l on) (hz : ArcsAt w0 A l) (ho : k9 w0 B on) :
  Calls Tryz.prog 116 #[.agg #[I n, .slice A l.length cap], .slice B on.length cap2] w0 fun e w' => e = .returned (I (costOf l on)) ∧ Below w0.heap.size w0 w' := by
 have H := SH.refl w0
 have hl := hV.len
 have hll := hN.len
 refine Calls.ofWP Tryz.func116 rfl Tryz.results116 Tryz.ntmps116 rfl<|Y.qr<|Y.bx (cA rfl) H ?_
 clear H; intro g2 w H
 refine Y.bz rfl<|Y.qr<|Y.bz rfl<|Y.qq<|Y.W H 0 rfl<|Y.E rfl<|Y.a rfl<|Y.z<|WP.block<|WP.loop [5, 6, 7, 11, 12, 13, 14, 15, 16, 17, 18, 19, 20, 21, 22, 23, 24, 25] (fun k e w' => ∃ j : Nat, j + k = l.length ∧ e 11 = I j ∧ e 5 = I (costOf (l.take j) (on.take j)) ∧ SH w0 [] w' [⟨g2, 123, [I n, .slice A l.length cap]⟩]) (l.length) (⟨0, by omega, rfl, rfl, H⟩) ?_
 clear H
 rintro k u w ⟨j, hk, h11, h5, H⟩
 refine WP.know (t := 11) h11 (WP.know (t := 5) h5 ?_)
 refine Y.qr<|Y.lt rfl<|Y.z<|Y.q ?_
 refine WP.cond rfl (fun hc3 => ?_) (fun hc3 => ?_)
 ·have hlt : j < l.length := by simpa using hc3
  obtain ⟨b, o, rfl, hc⟩ := hz j hlt
  obtain ⟨b2, o2, rfl, hx⟩ := ho j (by omega)
  have hc' := k7 H hc
  have h1 := hV.bd j hlt (by omega)
  have h2 := hN.caps l[j] (List.getElem_mem _)
  have h3 := jnw h1.1 (by omega) h2.2.1 h2.2.2
  have h4 := costOf_bd hN hV j (by omega)
  refine Y.k<|Y.q<|WP.block<|Y.qr<|Y.a rfl<|Y.U rfl<|Y.v (by (change Ev _ _ _ _ (Op.load 151 (Operand.tmp 14)) _; exact Ev.loadN (arcCells l[j]) (j6 rfl) (j4 rfl) rfl hc'))<|Y.al H rfl rfl ?_
  clear H; intro g7 w H
  refine Y.b rfl<|Y.ss 0 H rfl (cA rfl) rfl ?_
  clear H; intro w H
  refine Y.z<|WP.rstill mixed (by kernel_rfl) H ?_
  clear H; intro w hbw5 H
  refine Y.a rfl<|Y.sS rfl<|Y.a rfl<|Y.I rfl<|Y.v (Y.c (H.ld0 (by assumption)) rfl) ?_
  refine Y.W H 0 rfl<|Y.v (Ev.mul rfl rfl (by unfold fits; omega))<|Y.P rfl<|Y.b rfl<|OPS.nil_s<|Y.r<|Y.P rfl<|Y.a rfl<|Y.z ?_
  exact ⟨Y.ag, k - 1, by omega, j + 1, by omega, rfl, by rw [jdy l on j hlt (by omega)]; rfl, H.drop Y.sc⟩
 refine WP.exit<|XB.hit<|Y.qr<|Y.a rfl<|Y.bz rfl ?_
 refine WP.ret ⟨_, rfl, ?_⟩
 have hj : j = l.length := by simp at hc3; omega
 subst hj
 rw [List.take_length, ← hl, List.take_length]
 exact ⟨rfl, H.below⟩
end Go.Proofs.YtgcokllbophkkaaGreat.Flo
namespace Go.Proofs.YtgcokllbophkkaaGreat.Flo
open Go Go.W
abbrev potF (pots : List Int) : Int → Int := fun u => pots.getD u.toNat 0
def jdb (sts : List Step) (dist : List Int) (F : Int) (pots : List Int) : List Int := (List.range pots.length).map fun v => pots.getD v 0 + (if kn sts v = true then dAt dist v else F)
theorem jdC (sts : List Step) (dist : List Int) (F : Int) (pots : List Int) : (jdb sts dist F pots).length = pots.length := by simp [jdb]
theorem jdD {sts : List Step} {dist : List Int} {F : Int} {pots : List Int} {v : Nat} (h : v < pots.length) : (jdb sts dist F pots).getD v 0 = pots.getD v 0 + (if kn sts v = true then dAt dist v else F) := by
 simp [jdb, h]
def jb2 (sts : List Step) (dist : List Int) : Nat → Int
 | 0 => 0
 | k + 1 => if kn sts k = true then (if jb2 sts dist k < dAt dist k then dAt dist k else jb2 sts dist k) else jb2 sts dist k
theorem jcC (sts : List Step) (dist : List Int) : ∀ k, 0 ≤ jb2 sts dist k ∧ (∀ v, v < k → kn sts v = true → dAt dist v ≤ jb2 sts dist k) ∧ (jb2 sts dist k = 0 ∨ ∃ v, v < k ∧ kn sts v = true ∧ jb2 sts dist k = dAt dist v)
 | 0 => ⟨Int.le_refl _, fun v hv => absurd hv (by omega), .inl rfl⟩
 | k + 1 => by
  obtain ⟨h0, h1, h2⟩ := jcC sts dist k
  unfold jb2
  have lift : ∀ x, (x = 0 ∨ ∃ v, v < k ∧ kn sts v = true ∧ x = dAt dist v) → (x = 0 ∨ ∃ v, v < k + 1 ∧ kn sts v = true ∧ x = dAt dist v) := fun x hx => hx.imp id fun ⟨v, q1, q2⟩ => ⟨v, by omega, q2⟩
  split
  ·rename_i hk
   split
   ·rename_i hlt
    refine ⟨by omega, fun v hv hkv => ?_, .inr ⟨k, by omega, hk, rfl⟩⟩
    rcases Nat.lt_succ_iff_lt_or_eq.1 hv with hv | rfl
    ·have := h1 v hv hkv; omega
    ·exact Int.le_refl _
   ·rename_i hlt
    refine ⟨h0, fun v hv hkv => ?_, lift _ h2⟩
    rcases Nat.lt_succ_iff_lt_or_eq.1 hv with hv | rfl
    ·exact h1 v hv hkv
    ·omega
  ·rename_i hk
   refine ⟨h0, fun v hv hkv => ?_, lift _ h2⟩
   rcases Nat.lt_succ_iff_lt_or_eq.1 hv with hv | rfl
   ·exact h1 v hv hkv
   ·exact absurd hkv hk
section
variable {pots : List Int} {l : List Arc} {on : List Int} {n s : Nat} {sts : List Step} {dist : List Int} {rk : Nat → Int}
theorem jkX {F : Int} {i u v : Nat} {w : Int} {fw : Bool} {r : Int} (hl : pots.length = n) (hE : jaZ (potF pots) l on i fw u v r w) (hu : u < n) (hv : v < n) (h : i < l.length) :
  (fw = true → rc (potF (jdb sts dist F pots)) l[i] = w + (if kn sts u = true then dAt dist u else F) - (if kn sts v = true then dAt dist v else F)) ∧
  (fw = false → rc (potF (jdb sts dist F pots)) l[i] = -(w + (if kn sts u = true then dAt dist u else F) - (if kn sts v = true then dAt dist v else F))) := by
 obtain ⟨_, _, a, b⟩ := hE
 have e1 := jdD (sts := sts) (dist := dist) (F := F) (show u < pots.length by omega)
 have e2 := jdD (sts := sts) (dist := dist) (F := F) (show v < pots.length by omega)
 refine ⟨fun hf => ?_, fun hf => ?_⟩
 ·obtain ⟨h1, h2, _, _, h3⟩ := a hf
  unfold rc at h3 ⊢
  rw [h1, h2] at h3 ⊢
  simp only [potF, Int.toNat_natCast] at h3 ⊢
  rw [e1, e2]; omega
 ·obtain ⟨h1, h2, _, _, h3⟩ := b hf
  unfold rc at h3 ⊢
  rw [h1, h2] at h3 ⊢
  simp only [potF, Int.toNat_natCast] at h3 ⊢
  rw [e1, e2]; omega
theorem jdi (hn : jar n l) {i : Nat} (h : i < l.length) (h2 : i < on.length) (p : Int → Int) : ∃ a b : Nat, a < n ∧ b < n ∧ l[i].f = a ∧ l[i].t = b ∧ (on[i] < l[i].cap → jaZ p l on i true a b (l[i].cap - on[i]) (rc p l[i])) ∧ (0 < on[i] → jaZ p l on i false b a on[i] (-rc p l[i])) := by
 obtain ⟨⟨q1, q2⟩, q3, q4⟩ := hn l[i] (List.getElem_mem h)
 obtain ⟨a, ha⟩ := Int.eq_ofNat_of_zero_le q1
 obtain ⟨b, hb⟩ := Int.eq_ofNat_of_zero_le q3
 exact ⟨a, b, by omega, by omega, ha, hb, fun hc => ⟨h, h2, fun _ => ⟨ha, hb, rfl, hc, rfl⟩, fun q => by cases q⟩, fun hc => ⟨h, h2, (fun q => by cases q), fun _ => ⟨hb, ha, rfl, hc, rfl⟩⟩⟩
theorem jiB (hnr : jhO (potF pots) l on n s sts dist rk) (ho : OptPot (potF pots) l on) (hn : jar n l) (hl : pots.length = n) {F : Int} (hF : ∀ v, v < n → kn sts v = true → dAt dist v ≤ F) : OptPot (potF (jdb sts dist F pots)) l on := by
 intro i h h2
 obtain ⟨a, b, ha, hb, hfa, htb, e1, e2⟩ := jdi hn h h2 (potF pots)
 have key : ∀ (fw : Bool) (u v : Nat) (r w : Int), u < n → v < n → jaZ (potF pots) l on i fw u v r w → 0 ≤ w + (if kn sts u = true then dAt dist u else F) - (if kn sts v = true then dAt dist v else F) := by
  intro fw u v r w hu hv hE
  have hw := hE.nonneg ho
  by_cases hku : kn sts u = true
  ·obtain ⟨q1, q2⟩ := hnr.clo i fw u v r w hE hu hv hku
   rw [if_pos hku, if_pos q1]; omega
  ·rw [if_neg hku]
   by_cases hkv : kn sts v = true
   ·rw [if_pos hkv]; have := hF v hv hkv; omega
   ·rw [if_neg hkv]; omega
 refine ⟨fun hc => ?_, fun hc => ?_⟩
 ·rw [(jkX hl (e1 hc) ha hb h).1 rfl]; exact key _ _ _ _ _ ha hb (e1 hc)
 ·rw [(jkX hl (e2 hc) hb ha h).2 rfl]; have := key _ _ _ _ _ hb ha (e2 hc); omega
theorem jfo.known (hnr : jhO (potF pots) l on n s sts dist rk) : ∀ (ks : List Nat) (v : Nat), jfo rk l on n s sts ks v → kn sts v = true → ∀ x ∈ ks, x < n ∧ x ≠ s ∧ kn sts x = true
 | [], _, _, _, x, hx => by cases hx
 | y :: ks, v, ⟨h1, h2, h3, p, hp, _, hE, hP⟩, hk, x, hx => by
  rcases List.mem_cons.1 hx with rfl | hx
  ·subst h1; exact ⟨h3, h2, hk⟩
  ·refine jfo.known hnr ks p hP ?_ x hx
   obtain ⟨u, i, fw, r, w, q1, q2, q3, q4, _⟩ := hnr.par v h3 hk h2
   obtain ⟨e1, _⟩ := hE
   rw [q4] at e1
   have : u = p := by simp at e1; omega
   rw [← this]; exact q2
theorem jdI (sts : List Step) (M : Int) (i : Nat) : ∀ (ks : List Nat) (on : List Int), (ja0 sts ks M on).getD i 0 = on.getD i 0 ∨ ∃ x ∈ ks, (sts.getD x default).arc.toNat = i
 | [], on => .inl rfl
 | k :: ks, on => by
  have e : ja0 sts (k :: ks) M on = ja0 sts ks M (jb8 sts M on k) := rfl
  rw [e]
  rcases jdI sts M i ks (jb8 sts M on k) with h | ⟨x, hx, h⟩
  ·by_cases hk : (sts.getD k default).arc.toNat = i
   ·exact .inr ⟨k, List.mem_cons_self .., hk⟩
   ·refine .inl ?_
    rw [h]
    show (on.set (sts.getD k default).arc.toNat _).getD i 0 = on.getD i 0
    rw [List.getD_eq_getElem?_getD, List.getElem?_set_ne hk, ← List.getD_eq_getElem?_getD]
  ·exact .inr ⟨x, List.mem_cons_of_mem _ hx, h⟩
theorem push_opt (hnr : jhO (potF pots) l on n s sts dist rk) (ho : OptPot (potF pots) l on) (hn : jar n l) (hl : pots.length = n) (hlen : on.length = l.length) {F : Int} (hF : ∀ v, v < n → kn sts v = true → dAt dist v ≤ F)
  {ks : List Nat} {t : Nat} (hP : jfo rk l on n s sts ks t) (hkt : kn sts t = true) (M : Int) : OptPot (potF (jdb sts dist F pots)) l (ja0 sts ks M on) := by
 intro i h h2
 have h2' : i < on.length := by rw [jbo] at h2; exact h2
 rcases jdI sts M i ks on with he | ⟨x, hx, he⟩
 ·have e : (ja0 sts ks M on)[i] = on[i] := by
   rw [List.getD_eq_getElem?_getD, List.getD_eq_getElem?_getD, List.getElem?_eq_getElem h2, List.getElem?_eq_getElem h2'] at he
   simpa using he
  rw [e]
  exact jiB hnr ho hn hl hF i h h2'
 ·obtain ⟨q1, q2, q3⟩ := jfo.known hnr ks t hP hkt x hx
  obtain ⟨u, j, fw, r, w, u1, u2, u3, u4, u5, _⟩ := hnr.par x q1 q3 q2
  rw [u4] at he
  have hij : j = i := by simpa using he
  subst hij
  have hr := jkX (sts := sts) (dist := dist) (F := F) hl u3 u1 q1 h
  rw [if_pos u2, if_pos q3] at hr
  have : rc (potF (jdb sts dist F pots)) l[j] = 0 := by
   cases fw with
   | true => rw [hr.1 rfl]; omega
   | false => rw [hr.2 rfl]; omega
  rw [this]
  exact ⟨fun _ => Int.le_refl _, fun _ => Int.le_refl _⟩
theorem jiQ {amt : Int} {t : Nat} (hnr : jhO (potF pots) l on n s sts dist rk) (hn : jar n l) (hs : s < n) (hf : IsFlow n l s t on amt) (ht : kn sts t = false) : jcK n l s t amt := by
 refine ⟨⟨on, hf⟩, fun u => kn sts u.toNat, by simpa using hnr.src.1, by simpa using ht, ?_⟩
 rw [← jb7 _ l on hf.v.len fun i hi hi2 => ?_]
 ·exact hf.set hn ⟨by omega, by omega⟩ (by simpa using hnr.src.1) (by simpa using ht)
 ·obtain ⟨a, b, ha, hb, hfa, htb, e1, e2⟩ := jdi hn hi hi2 (potF pots)
  have hbd := hf.v.bd i hi hi2
  rw [hfa, htb]
  simp only [Int.toNat_natCast]
  refine ⟨fun u1 u2 => ?_, fun u1 u2 => ?_⟩
  ·rcases Int.lt_or_eq_of_le hbd.2 with hlt | he
   ·have := (hnr.clo i true a b _ _ (e1 hlt) ha hb u1).1; rw [u2] at this; cases this
   ·exact he
  ·rcases Int.lt_or_eq_of_le hbd.1 with hlt | he
   ·have := (hnr.clo i false b a _ _ (e2 hlt) hb ha u2).1; rw [u1] at this; cases this
   ·exact he.symm
theorem jmM {n s : Nat} {l : List Arc} {on : List Int} {pots : List Int} {sts : List Step} {dist : List Int} {rk : Nat → Int} (hnr : jhO (potF pots) l on n s sts dist rk) (hp : ∀ v, v < n → 0 ≤ pots.getD v 0) (k : Nat) (hk : k ≤ n) : jb2 sts dist k ≤ 65536 * n := by
 obtain ⟨_, _, h⟩ := jcC sts dist k
 rcases h with h | ⟨v, hv, hkv, h⟩
 ·omega
 ·have q := hnr.bd v (by omega) hkv
  have := hp v (by omega)
  simp only [potF, Int.toNat_natCast] at q
  omega
theorem sumTo_le {f g : Int → Int} : ∀ {n : Nat}, (∀ u : Int, 0 ≤ u → u < n → f u ≤ g u) → sumTo f n ≤ sumTo g n
 | 0, _ => Int.le_refl _
 | n + 1, h => by
  have := sumTo_le (f := f) (g := g) (n := n) fun u h1 h2 => h u h1 (by omega)
  have := h n (by omega) (by omega)
  simp only [sumTo]; omega
theorem jc1 {f g : Int → Int} {c : Int} {v : Nat} : ∀ {n : Nat}, v < n → (∀ u : Int, 0 ≤ u → u < n → f u ≤ g u) → f v + c ≤ g v → sumTo f n + c ≤ sumTo g n
 | 0, hv, _, _ => absurd hv (by omega)
 | n + 1, hv, h, hc => by
  simp only [sumTo]
  by_cases hvn : v = n
  ·subst hvn
   have := sumTo_le (f := f) (g := g) (n := v) fun u h1 h2 => h u h1 (by omega)
   omega
  ·have := jc1 (f := f) (g := g) (c := c) (v := v) (n := n) (by omega) (fun u h1 h2 => h u h1 (by omega)) hc
   have := h n (by omega) (by omega)
   omega
theorem je1 (c : Int) : ∀ n : Nat, sumTo (fun _ => c) n = n * c
 | 0 => by simp [sumTo]
 | n + 1 => by simp only [sumTo]; rw [je1 c n]; rw [show ((n + 1 : Nat) : Int) = n + 1 from rfl, Int.add_mul]; omega
def jm7 (B : Int) (pots : List Int) (n : Nat) : Int := sumTo (fun u => jfa B (pots.getD u.toNat 0)) n
structure jlB (n s : Nat) (pots : List Int) : Prop where
 len : pots.length = n
 zero : pots.getD s 0 = 0
 bd : ∀ v, v < n → 0 ≤ pots.getD v 0 ∧ pots.getD v 0 ≤ jm7 (65536 * n) pots n
theorem jlB.le (h : jlB n s pots) {v : Nat} (hv : v < n) : pots.getD v 0 ≤ 65536 * n * n := by
 have h1 := (h.bd v hv).2
 have h2 : jm7 (65536 * n) pots n ≤ sumTo (fun _ => 65536 * (n : Int)) n := sumTo_le fun u _ _ => (jko _ _).1
 rw [je1, show (n : Int) * (65536 * n) = 65536 * n * n from Int.mul_comm _ _] at h2
 have h3 : pots.getD v 0 ≤ jm7 (65536 * n) pots n := h1
 exact Int.le_trans h3 h2
theorem jlB.init (s : Nat) : jlB n s (List.replicate n 0) := by
 have hz : ∀ v : Nat, (List.replicate n (0 : Int)).getD v 0 = 0 := fun v => by
  by_cases h : v < n <;> simp [h]
 refine ⟨by simp, hz s, fun v hv => ?_⟩
 rw [hz v]
 have : sumTo (fun _ => (0 : Int)) n ≤ jm7 (65536 * n) (List.replicate n 0) n := sumTo_le fun u _ _ => by
  simp only [hz, jfa]; split <;> omega
 rw [jcd] at this
 omega
theorem jlB.step (h : jlB n s pots) (hnr : jhO (potF pots) l on n s sts dist rk) (hs : s < n) : jlB n s (jdb sts dist (jb2 sts dist n) pots) := by
 obtain ⟨f0, f1, f2⟩ := jcC sts dist n
 generalize jb2 sts dist n = F at *
 have hat : ∀ v, v < n → (jdb sts dist F pots).getD v 0 = pots.getD v 0 + (if kn sts v = true then dAt dist v else F) := fun v hv => jdD (by rw [h.len]; exact hv)
 have hkn : ∀ v, v < n → kn sts v = true → 0 ≤ dAt dist v ∧ pots.getD v 0 + dAt dist v ≤ 65536 * n := fun v hv hk => by
  have q1 := hnr.nn v hv hk
  have q2 := hnr.bd v hv hk
  simp only [potF, Int.toNat_natCast] at q2
  omega
 have hmono : ∀ u : Int, 0 ≤ u → u < n → jfa (65536 * n) (pots.getD u.toNat 0) ≤ jfa (65536 * n) ((jdb sts dist F pots).getD u.toNat 0) := fun u hu hun => by
  have hv : u.toNat < n := by omega
  rw [hat _ hv]
  have : 0 ≤ (if kn sts u.toNat = true then dAt dist u.toNat else F) := by
   split
   ·rename_i hk; exact (hkn _ hv hk).1
   ·exact f0
  generalize (if kn sts u.toNat = true then dAt dist u.toNat else F) = z at this ⊢
  unfold jfa; split <;> split <;> omega
 have hnn : ∀ v, v < n → 0 ≤ (jdb sts dist F pots).getD v 0 := fun v hv => by
  rw [hat v hv]
  have := (h.bd v hv).1
  split
  ·rename_i hk; have := (hkn v hv hk).1; omega
  ·omega
 refine ⟨by rw [jdC]; exact h.len, ?_, fun v hv => ⟨hnn v hv, ?_⟩⟩
 ·rw [hat s hs, if_pos hnr.src.1, hnr.src.2, h.zero]; rfl
 ·by_cases hk : kn sts v = true
  ·skip
   have q := hkn v hv hk
   have e : sumTo (fun _ => (0 : Int)) n + (jdb sts dist F pots).getD v 0 ≤ jm7 (65536 * n) (jdb sts dist F pots) n := jc1 hv (fun u h1 h2 => by
     have := hnn u.toNat (by omega)
     unfold jfa; split <;> omega) (by
     simp only [Int.toNat_natCast]
     rw [hat v hv, if_pos hk]
     unfold jfa; split <;> omega)
   rw [jcd] at e
   omega
  ·rw [hat v hv, if_neg hk]
   have hb := (h.bd v hv).2
   rcases f2 with hf | ⟨u, hu, hku, hfu⟩
   ·have : jm7 (65536 * n) pots n ≤ jm7 (65536 * n) (jdb sts dist F pots) n := sumTo_le hmono
    omega
   ·have q := hkn u hu hku
    have : jm7 (65536 * n) pots n + F ≤ jm7 (65536 * n) (jdb sts dist F pots) n := jc1 hu hmono (by
     simp only [Int.toNat_natCast]
     rw [hat u hu, if_pos hku, hfu]
     have := (h.bd u hu).1
     unfold jfa; split <;> split <;> omega)
    omega
end
end Go.Proofs.YtgcokllbophkkaaGreat.Flo
