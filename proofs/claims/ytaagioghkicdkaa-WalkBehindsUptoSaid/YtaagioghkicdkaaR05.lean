/- Contracts of layer 5. -/
import Derived.Test.YtaagioghkicdkaaR04
set_option linter.unusedVariables false
set_option linter.unusedSimpArgs false
namespace Go.Proofs.Ytaagioghkicdkaa
open Go.RowKit Go.Proofs.YtaagioghkicdkaaW.PrintWords Mt
/-- May data be? -/
def GoodP (D : List Int) (L : List (List Int)) : Prop := L.length ≠ 0 ∧ D.length = L.length + 1 ∧ D.getD 0 0 = 1 ∧ ∀ i, i < L.length → (L.getD i []).length = i ∧ 0 < D.getD (i + 1) 0
theorem four (p q r : Prop) : p ∨ (¬ p ∧ ¬ q) ∨ (¬ p ∧ q ∧ ¬ r) ∨ (¬ p ∧ q ∧ r) := by
  rcases Classical.em p with h | h
  · exact .inl h
  · rcases Classical.em q with k | k
    · rcases Classical.em r with l | l
      · exact .inr (.inr (.inr ⟨h, k, l⟩))
      · exact .inr (.inr (.inl ⟨h, k, l⟩))
    · exact .inr (.inl ⟨h, k⟩)
theorem not_true {b : Bool} {p : Prop} (hb : b = true ↔ p) (h : ¬ p) : Value.bool false = .bool b := by
  cases b
  · rfl
  · exact absurd (hb.1 rfl) h
theorem is_true {b : Bool} {p : Prop} (hb : b = true ↔ p) (h : p) : Value.bool true = .bool b := by rw [hb.2 h]
theorem sgnc_nz {a b : Int} (h : a ≠ b) : sgnc a b ≠ 0 := by unfold sgnc; split <;> (try split) <;> omega
theorem sg_le {a : Int} (h : ¬ 0 < a) : sg a ≤ 0 := by unfold sg sgnc; split <;> (try split) <;> omega
theorem sg_gt {a : Int} (h : 0 < a) : ¬ sg a ≤ 0 := by unfold sg sgnc; split <;> (try split) <;> omega
theorem nn {p : Prop} (h : ¬ ¬ p) : p := Classical.byContradiction h

set_option maxRecDepth 100000 in
theorem w_whole {u : World} {z : Int} {v0 : Value} {v1 : Value} (h0 : Cv u v0 z) (h1 : Cv u v1 z)  : Fn Try.prog 96 #[v0, v1] u (Is (.bool true)) := by
  obtain ⟨s0, A0, n0, c0, rfl, g0⟩ := h0; have z0 := g0.1; have h0 : Sl dL u (.slice A0 n0 c0) (dig (z).natAbs) := LCv.sl ⟨_, _, _, rfl, g0.2⟩; have l0 : (dig (z).natAbs).length = n0 := h0.len.1; have j0 := h0.len.2
  obtain ⟨s1, A1, n1, c1, rfl, g1⟩ := h1; have z1 := g1.1; have h1 : Sl dL u (.slice A1 n1 c1) (dig (z).natAbs) := LCv.sl ⟨_, _, _, rfl, g1.2⟩; have l1 : (dig (z).natAbs).length = n1 := h1.len.1; have j1 := h1.len.2
  obtain rfl : s0 = s1 := by rw [z0, z1]
  refine fn_of (args := [_, _]) Try.func96 rfl (by show 2 ≤ 38; decide) ?_
  intro w0 hs0
  have hG0 := Gr.refl w0.heap.size u
  refine tri_seq ?_
  refine tri_reg mixed [.new 31 [.bool s0, .slice A0 n0 c0], .new 31 [.bool s0, .slice A1 n1 c1], .con (.bool false)] [2, 3] [0, 1] [] ?_ (by decide) ?_ ?_ _ _
  · kernel_rfl
  · exact ⟨al, al, pu, trivial⟩
  rintro p1 x1 u1 hg1 -
  replace h0 := h0.sub dLk hg1.1; replace h1 := h1.sub dLk hg1.1
  have hG1 := hG0.trans hg1
  refine next (g' := [(2, pt (p1 0) 0), (3, pt (p1 1) 0)]) (bx' := [⟨p1 0, 31, [.bool s0, .slice A0 n0 c0]⟩, ⟨p1 1, 31, [.bool s0, .slice A1 n1 c1]⟩]) (rw' := []) (by kernel_rfl) (by kernel_rfl) (by kernel_rfl) ?_
  refine tri_seq ?_
  refine tri_seq ?_
  refine tri_reg mixed [.con (pt (p1 0) 0), .con (.bool s0), .con (pt (p1 1) 0), .con (.bool s0), .con (.bool false), .con (.bool false), .con (pt (p1 0) 1), .con (.slice A0 n0 c0), .con (.int .i64 (n0 : Int)), .con (pt (p1 1) 1), .con (.slice A1 n1 c1), .con (.int .i64 (n1 : Int)), .con (.bool false), .con (.bool false)] [2, 3, 19] [0, 1] [] ?_ (by decide) ?_ ?_ _ _
  · kernel_rfl
  · exact ⟨pu, ld 0 0 1 ty4, pu, ld 1 0 1 ty4, pw (bnf (a := s0) (b := s0) (by rfl)), pu, pu, ld 0 1 1 ty29, pu, pu, ld 1 1 1 ty29, pu, pw (bnf (a := (n0 : Int)) (b := (n1 : Int)) (by omega)), pu, trivial⟩
  rintro p2 x2 u2 hg2 -
  replace h0 := h0.sub dLk hg2.1; replace h1 := h1.sub dLk hg2.1
  have hG2 := hG1.trans hg2
  refine next (g' := [(2, pt (p1 0) 0), (3, pt (p1 1) 0), (19, .bool false)]) (bx' := [⟨p1 0, 31, [.bool s0, .slice A0 n0 c0]⟩, ⟨p1 1, 31, [.bool s0, .slice A1 n1 c1]⟩]) (rw' := []) (by kernel_rfl) (by kernel_rfl) (by kernel_rfl) ?_
  refine tri_false rfl ?_
  refine tri_skip ?_
  refine next rfl rfl rfl ?_
  refine tri_seq ?_
  refine tri_seq ?_
  refine tri_reg mixed [.con (.int .i64 0)] [2, 3, 5] [0, 1] [] ?_ (by decide) ?_ ?_ _ _
  · kernel_rfl
  · exact ⟨pu, trivial⟩
  rintro p3 x3 u3 hg3 -
  replace h0 := h0.sub dLk hg3.1; replace h1 := h1.sub dLk hg3.1
  have hG3 := hG2.trans hg3
  refine next (g' := [(2, pt (p1 0) 0), (3, pt (p1 1) 0), (5, .int .i64 0)]) (bx' := [⟨p1 0, 31, [.bool s0, .slice A0 n0 c0]⟩, ⟨p1 1, 31, [.bool s0, .slice A1 n1 c1]⟩]) (rw' := []) (by kernel_rfl) (by kernel_rfl) (by kernel_rfl) ?_
  refine tri_block ?_
  refine tri_loop (fun m_ g_ bx_ rw_ u_ => ∃ (k : Nat), (m_ = n0 - k ∧ Gr w0.heap.size u3 u_ ∧ k ≤ n0 ∧ g_ = [(2, pt (p1 0) 0), (3, pt (p1 1) 0), (5, .int .i64 (k : Int))] ∧ bx_ = [⟨p1 0, 31, [.bool s0, .slice A0 n0 c0]⟩, ⟨p1 1, 31, [.bool s0, .slice A1 n1 c1]⟩] ∧ rw_ = [])) (n0 - 0) ⟨0, rfl, Gr.refl _ _, Nat.zero_le _, rfl, rfl, rfl⟩ ?_
  rintro m_ g_ bx_ rw_ u4 ⟨k, hm_, hg4, hk, rfl, rfl, rfl⟩
  replace h0 := h0.sub dLk hg4.1; replace h1 := h1.sub dLk hg4.1
  have hG4 := hG3.trans hg4
  refine tri_seq ?_
  refine tri_seq ?_
  refine tri_reg mixed [.con (.int .i64 (k : Int)), .con (pt (p1 0) 1), .con (.slice A0 n0 c0), .con (.int .i64 (n0 : Int)), .con (.bool (decide ((k : Int) < (n0 : Int))))] [2, 3, 5, 24] [0, 1] [] ?_ (by decide) ?_ ?_ _ _
  · kernel_rfl
  · exact ⟨pu, pu, ld 0 1 1 ty29, pu, pu, trivial⟩
  rintro p5 x5 u5 hg5 -
  replace h0 := h0.sub dLk hg5.1; replace h1 := h1.sub dLk hg5.1
  have hG5 := hG4.trans hg5
  refine next (g' := [(2, pt (p1 0) 0), (3, pt (p1 1) 0), (5, .int .i64 (k : Int)), (24, .bool (decide ((k : Int) < (n0 : Int))))]) (bx' := [⟨p1 0, 31, [.bool s0, .slice A0 n0 c0]⟩, ⟨p1 1, 31, [.bool s0, .slice A1 n1 c1]⟩]) (rw' := []) (by kernel_rfl) (by kernel_rfl) (by kernel_rfl) ?_
  refine tri_cond (b := (decide ((k : Int) < (n0 : Int)))) rfl (fun hc => ?_) (fun hc => ?_)
  · replace hc := of_decide_eq_true hc
    refine tri_skip ?_
    refine next rfl rfl rfl ?_
    refine tri_seq ?_
    refine tri_block ?_
    refine tri_seq ?_
    obtain ⟨adx, x_, cs_, hAx, hx_, hcs_, hcellx⟩ := h0.at dLk k (by omega)
    have hx_ : x_ = at_ (dig (z).natAbs) k := by unfold at_; rw [List.getD_eq_getElem?_getD, hx_]; rfl
    subst hx_; rw [show cs_ = _ from hcs_] at hcellx; clear hcs_
    obtain ⟨ady, x_, cs_, hAy, hx_, hcs_, hcelly⟩ := h1.at dLk k (by omega)
    have hx_ : x_ = at_ (dig (z).natAbs) k := by unfold at_; rw [List.getD_eq_getElem?_getD, hx_]; rfl
    subst hx_; rw [show cs_ = _ from hcs_] at hcelly; clear hcs_
    refine tri_reg mixed [.con (pt (p1 0) 1), .con (.slice A0 n0 c0), .con (.int .i64 (k : Int)), .con (.pointer (some (adx.add (((k : Int) : Int).toNat * 1)))), .con (.int .u32 (at_ (dig (z).natAbs) k)), .con (pt (p1 1) 1), .con (.slice A1 n1 c1), .con (.int .i64 (k : Int)), .con (.pointer (some (ady.add (((k : Int) : Int).toNat * 1)))), .con (.int .u32 (at_ (dig (z).natAbs) k)), .con (.bool false)] [2, 3, 5, 37] [0, 1] [] ?_ (by decide) ?_ ?_ _ _
    · kernel_rfl
    · exact ⟨pu, ld 0 1 1 ty29, pu, ix (kk := .i64) (n := n0) (c := c0) sl29 hAx (by omega) (by omega), li ty93 (vs := [.int .u32 (at_ (dig (z).natAbs) k)]) hcellx rfl, pu, ld 1 1 1 ty29, pu, ix (kk := .i64) (n := n1) (c := c1) sl29 hAy (by omega) (by omega), li ty93 (vs := [.int .u32 (at_ (dig (z).natAbs) k)]) hcelly rfl, pw (bnf (a := (at_ (dig (z).natAbs) k)) (b := (at_ (dig (z).natAbs) k)) (by rfl)), trivial⟩
    rintro p6 x6 u6 hg6 -
    replace h0 := h0.sub dLk hg6.1; replace h1 := h1.sub dLk hg6.1
    have hG6 := hG5.trans hg6
    refine next (g' := [(2, pt (p1 0) 0), (3, pt (p1 1) 0), (5, .int .i64 (k : Int)), (37, .bool false)]) (bx' := [⟨p1 0, 31, [.bool s0, .slice A0 n0 c0]⟩, ⟨p1 1, 31, [.bool s0, .slice A1 n1 c1]⟩]) (rw' := []) (by kernel_rfl) (by kernel_rfl) (by kernel_rfl) ?_
    refine tri_false rfl ?_
    refine tri_skip ?_
    refine pn_blk ?_
    refine next rfl rfl rfl ?_
    refine tri_reg mixed [.con (.int .i64 (k : Int)), .con (.int .i64 ((k : Int) + 1)), .con (.int .i64 ((k : Int) + 1))] [2, 3, 5] [0, 1] [] ?_ (by decide) ?_ ?_ _ _
    · kernel_rfl
    · exact ⟨pu, pw (w64 (n := (k : Int) + 1) (by omega)), pu, trivial⟩
    rintro p7 x7 u7 hg7 -
    replace h0 := h0.sub dLk hg7.1; replace h1 := h1.sub dLk hg7.1
    have hG7 := hG6.trans hg7
    exact PN.sub (g' := [(2, pt (p1 0) 0), (3, pt (p1 1) 0), (5, .int .i64 ((k + 1) : Int))]) (bx' := [⟨p1 0, 31, [.bool s0, .slice A0 n0 c0]⟩, ⟨p1 1, 31, [.bool s0, .slice A1 n1 c1]⟩]) (rw' := []) ⟨rfl, rfl, (by first | rfl | (simp)), trivial⟩ rfl rfl (pn_at (m' := n0 - (k + 1)) (by omega) ⟨k + 1, rfl, (((hg4).trans hg5).trans hg6).trans hg7, by omega, rfl, rfl, rfl⟩)
  · replace hc := of_decide_eq_false hc
    refine tri_exit ?_
    repeat refine pn_then (by simp) ?_
    refine pn_ex ?_
    refine next rfl rfl rfl ?_
    refine tri_seq ?_
    refine tri_reg mixed [.con (.bool true)] [4] [] [] ?_ (by decide) ?_ ?_ _ _
    · kernel_rfl
    · exact ⟨pu, trivial⟩
    rintro p8 x8 u8 hg8 -
    replace h0 := h0.sub dLk hg8.1; replace h1 := h1.sub dLk hg8.1
    have hG8 := hG5.trans hg8
    refine next (g' := [(4, .bool true)]) (bx' := []) (rw' := []) (by kernel_rfl) (by kernel_rfl) (by kernel_rfl) ?_
    exact tri_ret (ret1 rfl (.bool true) rfl hG8 (rfl))

set_option maxRecDepth 100000 in
theorem w_same {u : World} {z y : Int} {v0 : Value} {v1 : Value} (h0 : Pv u v0 z y) (h1 : Pv u v1 z y)  : Fn Try.prog 51 #[v0, v1] u (Is (.bool true)) := by
  obtain ⟨s0, A0, n0, c0, t0, D0, m0, e0, rfl, h0, k0⟩ := h0
  obtain ⟨s1, A1, n1, c1, t1, D1, m1, e1, rfl, h1, k1⟩ := h1
  refine fn_of (args := [_, _]) Try.func51 rfl (by show 2 ≤ 17; decide) ?_
  intro w0 hs0
  have hG0 := Gr.refl w0.heap.size u
  refine tri_seq ?_
  refine tri_reg mixed [.new 33 [.bool s0, .slice A0 n0 c0, .bool t0, .slice D0 m0 e0], .new 33 [.bool s1, .slice A1 n1 c1, .bool t1, .slice D1 m1 e1], .con (.bool false)] [2, 3] [0, 1] [] ?_ (by decide) ?_ ?_ _ _
  · kernel_rfl
  · exact ⟨al, al, pu, trivial⟩
  rintro p1 x1 u1 hg1 -
  replace h0 := h0.sub hg1.1; replace h1 := h1.sub hg1.1; replace k0 := k0.sub hg1.1; replace k1 := k1.sub hg1.1
  have hG1 := hG0.trans hg1
  refine next (g' := [(2, pt (p1 0) 0), (3, pt (p1 1) 0)]) (bx' := [⟨p1 0, 33, [.bool s0, .slice A0 n0 c0, .bool t0, .slice D0 m0 e0]⟩, ⟨p1 1, 33, [.bool s1, .slice A1 n1 c1, .bool t1, .slice D1 m1 e1]⟩]) (rw' := []) (by kernel_rfl) (by kernel_rfl) (by kernel_rfl) ?_
  refine tri_seq ?_
  refine tri_reg mixed [.con (pt (p1 0) 0), .con (.agg #[.bool s0, .slice A0 n0 c0]), .con (pt (p1 1) 0), .con (.agg #[.bool s1, .slice A1 n1 c1]), .con (.bool true), .con (.bool true), .con (pt (p1 0) 2), .con (.agg #[.bool t0, .slice D0 m0 e0]), .con (pt (p1 1) 2), .con (.agg #[.bool t1, .slice D1 m1 e1]), .con (.bool true), .con (.bool true), .con (.bool true)] [4] [] [] ?_ (by decide) ?_ ?_ _ _
  · kernel_rfl
  · exact ⟨pu, ld 0 0 2 ty31, pu, ld 1 0 2 ty31, cc fun f u w hs => (w_whole (⟨_, _, _, _, rfl, (h0.sub hs.old)⟩) (⟨_, _, _, _, rfl, (h1.sub hs.old)⟩)), pu, pu, ld 0 2 2 ty31, pu, ld 1 2 2 ty31, cc fun f u w hs => (w_whole (⟨_, _, _, _, rfl, (k0.sub hs.old)⟩) (⟨_, _, _, _, rfl, (k1.sub hs.old)⟩)), pu, pu, trivial⟩
  rintro p2 x2 u2 hg2 -
  replace h0 := h0.sub hg2.1; replace h1 := h1.sub hg2.1; replace k0 := k0.sub hg2.1; replace k1 := k1.sub hg2.1
  have hG2 := hG1.trans hg2
  refine next (g' := [(4, .bool true)]) (bx' := []) (rw' := []) (by kernel_rfl) (by kernel_rfl) (by kernel_rfl) ?_
  exact tri_ret (ret1 rfl (.bool true) rfl hG2 (rfl))

set_option maxRecDepth 100000 in
theorem g_good {u : World} {D : List Int} {L : List (List Int)} {k : Nat} {b : Bool} {v0 : Value} (h0 : Gv u v0 D L k) (hk : k ≤ 1099511627776) (hlL : L.length ≤ 1099511627776) (hb : b = true ↔ GoodP D L) : Fn Try.prog 95 #[v0] u (Is (.bool b)) := by
  obtain ⟨A0, n0, c0, E0, m0, e0, rfl, h0, k0⟩ := h0; have l0 := h0.len; have j0 := k0.len
  refine fn_of (args := [_]) Try.func95 rfl (by show 1 ≤ 51; decide) ?_
  intro w0 hs0
  have hG0 := Gr.refl w0.heap.size u
  refine tri_seq ?_
  refine tri_reg mixed [.new 27 [.slice A0 n0 c0, .slice E0 m0 e0], .con (.bool false)] [1] [0] [] ?_ (by decide) ?_ ?_ _ _
  · kernel_rfl
  · exact ⟨al, pu, trivial⟩
  rintro p1 x1 u1 hg1 -
  replace h0 := h0.sub (dGik k) hg1.1; replace k0 := k0.sub (dRwk (dGik k)) hg1.1
  have hG1 := hG0.trans hg1
  refine next (g' := [(1, pt (p1 0) 0)]) (bx' := [⟨p1 0, 27, [.slice A0 n0 c0, .slice E0 m0 e0]⟩]) (rw' := []) (by kernel_rfl) (by kernel_rfl) (by kernel_rfl) ?_
  refine tri_seq ?_
  refine tri_seq ?_
  rcases four (L.length = 0) (D.length = L.length + 1) (D.getD 0 0 = 1) with r0 | ⟨r0, r1⟩ | ⟨r0, r1, r2⟩ | ⟨r0, r1, r2⟩
  · refine tri_reg mixed [.con (pt (p1 0) 1), .con (.slice E0 m0 e0), .con (.int .i64 (m0 : Int)), .con (.bool true), .con (.bool true), .con undef, .con undef, .con undef, .con undef, .con undef, .con undef, .con undef, .con undef, .con (.bool true), .con (.bool true), .con undef, .con undef, .con undef, .con undef, .con undef, .con undef, .con undef, .con (.bool true)] [1, 27] [0] [] ?_ (by decide) ?_ ?_ _ _
    · kernel_rfl
    · exact ⟨pu, ld 0 1 1 ty25, pu, pw (bet (a := (m0 : Int)) (b := 0) (by omega)), pu, trivial, trivial, trivial, trivial, trivial, trivial, trivial, trivial, pu, pu, trivial, trivial, trivial, trivial, trivial, trivial, trivial, pu, trivial⟩
    rintro p2 x2 u2 hg2 -
    replace h0 := h0.sub (dGik k) hg2.1; replace k0 := k0.sub (dRwk (dGik k)) hg2.1
    have hG2 := hG1.trans hg2
    refine next (g' := [(1, pt (p1 0) 0), (27, .bool true)]) (bx' := [⟨p1 0, 27, [.slice A0 n0 c0, .slice E0 m0 e0]⟩]) (rw' := []) (by kernel_rfl) (by kernel_rfl) (by kernel_rfl) ?_
    refine tri_true rfl ?_
    refine tri_seq ?_
    refine tri_reg mixed [.con (.bool false)] [2] [] [] ?_ (by decide) ?_ ?_ _ _
    · kernel_rfl
    · exact ⟨pu, trivial⟩
    rintro p3 x3 u3 hg3 -
    replace h0 := h0.sub (dGik k) hg3.1; replace k0 := k0.sub (dRwk (dGik k)) hg3.1
    have hG3 := hG2.trans hg3
    refine next (g' := [(2, .bool false)]) (bx' := []) (rw' := []) (by kernel_rfl) (by kernel_rfl) (by kernel_rfl) ?_
    exact tri_ret (ret1 rfl (.bool false) rfl hG3 ((not_true hb (fun h => by first | exact r0 h.1 | exact h.1 r0 | exact r1 h.2.1 | exact r2 h.2.2.1 | exact r3 (h.2.2.2 i (by omega)).1 | exact r4 (h.2.2.2 i (by omega)).2))))
  · refine tri_reg mixed [.con (pt (p1 0) 1), .con (.slice E0 m0 e0), .con (.int .i64 (m0 : Int)), .con (.bool false), .con (.bool false), .con (pt (p1 0) 0), .con (.slice A0 n0 c0), .con (.int .i64 (n0 : Int)), .con (pt (p1 0) 1), .con (.slice E0 m0 e0), .con (.int .i64 (m0 : Int)), .con (.int .i64 ((m0 : Int) + 1)), .con (.bool true), .con (.bool true), .con (.bool true), .con undef, .con undef, .con undef, .con undef, .con undef, .con undef, .con undef, .con (.bool true)] [1, 27] [0] [] ?_ (by decide) ?_ ?_ _ _
    · kernel_rfl
    · exact ⟨pu, ld 0 1 1 ty25, pu, pw (bef (a := (m0 : Int)) (b := 0) (by omega)), pu, pu, ld 0 0 1 ty24, pu, pu, ld 0 1 1 ty25, pu, pw (w64 (n := (m0 : Int) + 1) (by omega)), pw (bnt (a := (n0 : Int)) (b := ((m0 : Int) + 1)) (by omega)), pu, pu, trivial, trivial, trivial, trivial, trivial, trivial, trivial, pu, trivial⟩
    rintro p4 x4 u4 hg4 -
    replace h0 := h0.sub (dGik k) hg4.1; replace k0 := k0.sub (dRwk (dGik k)) hg4.1
    have hG4 := hG1.trans hg4
    refine next (g' := [(1, pt (p1 0) 0), (27, .bool true)]) (bx' := [⟨p1 0, 27, [.slice A0 n0 c0, .slice E0 m0 e0]⟩]) (rw' := []) (by kernel_rfl) (by kernel_rfl) (by kernel_rfl) ?_
    refine tri_true rfl ?_
    refine tri_seq ?_
    refine tri_reg mixed [.con (.bool false)] [2] [] [] ?_ (by decide) ?_ ?_ _ _
    · kernel_rfl
    · exact ⟨pu, trivial⟩
    rintro p5 x5 u5 hg5 -
    replace h0 := h0.sub (dGik k) hg5.1; replace k0 := k0.sub (dRwk (dGik k)) hg5.1
    have hG5 := hG4.trans hg5
    refine next (g' := [(2, .bool false)]) (bx' := []) (rw' := []) (by kernel_rfl) (by kernel_rfl) (by kernel_rfl) ?_
    exact tri_ret (ret1 rfl (.bool false) rfl hG5 ((not_true hb (fun h => by first | exact r0 h.1 | exact h.1 r0 | exact r1 h.2.1 | exact r2 h.2.2.1 | exact r3 (h.2.2.2 i (by omega)).1 | exact r4 (h.2.2.2 i (by omega)).2))))
  · obtain ⟨ad6, s6z, A6z, n6z, c6z, ha6, he6, hc6e⟩ := gi_at h0 0 (by omega)
    refine tri_reg mixed [.con (pt (p1 0) 1), .con (.slice E0 m0 e0), .con (.int .i64 (m0 : Int)), .con (.bool false), .con (.bool false), .con (pt (p1 0) 0), .con (.slice A0 n0 c0), .con (.int .i64 (n0 : Int)), .con (pt (p1 0) 1), .con (.slice E0 m0 e0), .con (.int .i64 (m0 : Int)), .con (.int .i64 ((m0 : Int) + 1)), .con (.bool false), .con (.bool false), .con (.bool false), .con (pt (p1 0) 0), .con (.slice A0 n0 c0), .con (.pointer (some (ad6.add ((0 : Int).toNat * 2)))), .con (.agg #[.bool s6z, .slice A6z n6z c6z]), .opq (fun u r => Cv u r 1), .con (.int .i64 (sgnc (D.getD 0 0) 1)), .con (.bool true), .con (.bool true)] [1, 27] [0] [] ?_ (by decide) ?_ ?_ _ _
    · kernel_rfl
    · exact ⟨pu, ld 0 1 1 ty25, pu, pw (bef (a := (m0 : Int)) (b := 0) (by omega)), pu, pu, ld 0 0 1 ty24, pu, pu, ld 0 1 1 ty25, pu, pw (w64 (n := (m0 : Int) + 1) (by omega)), pw (bnf (a := (n0 : Int)) (b := ((m0 : Int) + 1)) (by omega)), pu, pu, pu, ld 0 0 1 ty24, ix (kk := .i64) (n := n0) (c := c0) sl24 ha6 (by omega) (by omega), li ty31 (vs := [.bool s6z, .slice A6z n6z c6z]) hc6e rfl, ca (Cv.m _) fun f u w hs => (z_Of (by omega) (by omega)), cc fun f u w hs => (z_Compare ⟨_, _, _, _, rfl, he6.sub hs.old⟩ ((hs.opq 19 _ rfl rfl).iv (zl_of (by omega) (by omega))) (by omega) (by omega)), pw (bnt (a := (sgnc (D.getD 0 0) 1)) (b := 0) (by exact sgnc_nz r2)), pu, trivial⟩
    rintro p7 x7 u7 hg7 ⟨q19, -⟩
    replace h0 := h0.sub (dGik k) hg7.1; replace he6 := he6.sub hg7.1; replace k0 := k0.sub (dRwk (dGik k)) hg7.1
    have hG7 := hG1.trans hg7
    refine next (g' := [(1, pt (p1 0) 0), (27, .bool true)]) (bx' := [⟨p1 0, 27, [.slice A0 n0 c0, .slice E0 m0 e0]⟩]) (rw' := []) (by kernel_rfl) (by kernel_rfl) (by kernel_rfl) ?_
    refine tri_true rfl ?_
    refine tri_seq ?_
    refine tri_reg mixed [.con (.bool false)] [2] [] [] ?_ (by decide) ?_ ?_ _ _
    · kernel_rfl
    · exact ⟨pu, trivial⟩
    rintro p8 x8 u8 hg8 -
    replace h0 := h0.sub (dGik k) hg8.1; replace k0 := k0.sub (dRwk (dGik k)) hg8.1
    have hG8 := hG7.trans hg8
    refine next (g' := [(2, .bool false)]) (bx' := []) (rw' := []) (by kernel_rfl) (by kernel_rfl) (by kernel_rfl) ?_
    exact tri_ret (ret1 rfl (.bool false) rfl hG8 ((not_true hb (fun h => by first | exact r0 h.1 | exact h.1 r0 | exact r1 h.2.1 | exact r2 h.2.2.1 | exact r3 (h.2.2.2 i (by omega)).1 | exact r4 (h.2.2.2 i (by omega)).2))))
  · obtain ⟨ad9, s9z, A9z, n9z, c9z, ha9, he9, hc9e⟩ := gi_at h0 0 (by omega)
    refine tri_reg mixed [.con (pt (p1 0) 1), .con (.slice E0 m0 e0), .con (.int .i64 (m0 : Int)), .con (.bool false), .con (.bool false), .con (pt (p1 0) 0), .con (.slice A0 n0 c0), .con (.int .i64 (n0 : Int)), .con (pt (p1 0) 1), .con (.slice E0 m0 e0), .con (.int .i64 (m0 : Int)), .con (.int .i64 ((m0 : Int) + 1)), .con (.bool false), .con (.bool false), .con (.bool false), .con (pt (p1 0) 0), .con (.slice A0 n0 c0), .con (.pointer (some (ad9.add ((0 : Int).toNat * 2)))), .con (.agg #[.bool s9z, .slice A9z n9z c9z]), .opq (fun u r => Cv u r 1), .con (.int .i64 (sgnc (D.getD 0 0) 1)), .con (.bool false), .con (.bool false)] [1, 27] [0] [] ?_ (by decide) ?_ ?_ _ _
    · kernel_rfl
    · exact ⟨pu, ld 0 1 1 ty25, pu, pw (bef (a := (m0 : Int)) (b := 0) (by omega)), pu, pu, ld 0 0 1 ty24, pu, pu, ld 0 1 1 ty25, pu, pw (w64 (n := (m0 : Int) + 1) (by omega)), pw (bnf (a := (n0 : Int)) (b := ((m0 : Int) + 1)) (by omega)), pu, pu, pu, ld 0 0 1 ty24, ix (kk := .i64) (n := n0) (c := c0) sl24 ha9 (by omega) (by omega), li ty31 (vs := [.bool s9z, .slice A9z n9z c9z]) hc9e rfl, ca (Cv.m _) fun f u w hs => (z_Of (by omega) (by omega)), cc fun f u w hs => (z_Compare ⟨_, _, _, _, rfl, he9.sub hs.old⟩ ((hs.opq 19 _ rfl rfl).iv (zl_of (by omega) (by omega))) (by omega) (by omega)), pw (bnf (a := (sgnc (D.getD 0 0) 1)) (b := 0) (by exact sgnc_eq r2)), pu, trivial⟩
    rintro p10 x10 u10 hg10 ⟨q19, -⟩
    replace h0 := h0.sub (dGik k) hg10.1; replace he9 := he9.sub hg10.1; replace k0 := k0.sub (dRwk (dGik k)) hg10.1
    have hG10 := hG1.trans hg10
    refine next (g' := [(1, pt (p1 0) 0), (27, .bool false)]) (bx' := [⟨p1 0, 27, [.slice A0 n0 c0, .slice E0 m0 e0]⟩]) (rw' := []) (by kernel_rfl) (by kernel_rfl) (by kernel_rfl) ?_
    refine tri_false rfl ?_
    refine tri_skip ?_
    refine next rfl rfl rfl ?_
    refine tri_seq ?_
    refine tri_seq ?_
    refine tri_reg mixed [.con (pt (p1 0) 1), .con (.slice E0 m0 e0), .con (.int .i64 (m0 : Int)), .con (.int .i64 0)] [1, 29, 30, 31] [0] [] ?_ (by decide) ?_ ?_ _ _
    · kernel_rfl
    · exact ⟨pu, ld 0 1 1 ty25, pu, pu, trivial⟩
    rintro p11 x11 u11 hg11 -
    replace h0 := h0.sub (dGik k) hg11.1; replace k0 := k0.sub (dRwk (dGik k)) hg11.1
    have hG11 := hG10.trans hg11
    refine next (g' := [(1, pt (p1 0) 0), (29, .slice E0 m0 e0), (30, .int .i64 (m0 : Int)), (31, .int .i64 0)]) (bx' := [⟨p1 0, 27, [.slice A0 n0 c0, .slice E0 m0 e0]⟩]) (rw' := []) (by kernel_rfl) (by kernel_rfl) (by kernel_rfl) ?_
    refine tri_block ?_
    refine tri_loop (fun m_ g_ bx_ rw_ u_ => ∃ (i : Nat), (m_ = m0 - i ∧ Gr w0.heap.size u11 u_ ∧ i ≤ m0 ∧ (∀ j, j < i → (L.getD j []).length = j ∧ 0 < D.getD (j + 1) 0) ∧ g_ = [(1, pt (p1 0) 0), (29, .slice E0 m0 e0), (30, .int .i64 (m0 : Int)), (31, .int .i64 (i : Int))] ∧ bx_ = [⟨p1 0, 27, [.slice A0 n0 c0, .slice E0 m0 e0]⟩] ∧ rw_ = [])) (m0 - 0) ⟨0, rfl, Gr.refl _ _, Nat.zero_le _, fun j hj => absurd hj (Nat.not_lt_zero j), rfl, rfl, rfl⟩ ?_
    rintro m_ g_ bx_ rw_ u12 ⟨i, hm_, hg12, hi, hg, rfl, rfl, rfl⟩
    replace h0 := h0.sub (dGik k) hg12.1; replace k0 := k0.sub (dRwk (dGik k)) hg12.1
    have hG12 := hG11.trans hg12
    refine tri_seq ?_
    refine tri_reg mixed [.con (.bool (decide ((i : Int) < (m0 : Int))))] [1, 29, 30, 31, 32] [0] [] ?_ (by decide) ?_ ?_ _ _
    · kernel_rfl
    · exact ⟨pu, trivial⟩
    rintro p13 x13 u13 hg13 -
    replace h0 := h0.sub (dGik k) hg13.1; replace k0 := k0.sub (dRwk (dGik k)) hg13.1
    have hG13 := hG12.trans hg13
    refine next (g' := [(1, pt (p1 0) 0), (29, .slice E0 m0 e0), (30, .int .i64 (m0 : Int)), (31, .int .i64 (i : Int)), (32, .bool (decide ((i : Int) < (m0 : Int))))]) (bx' := [⟨p1 0, 27, [.slice A0 n0 c0, .slice E0 m0 e0]⟩]) (rw' := []) (by kernel_rfl) (by kernel_rfl) (by kernel_rfl) ?_
    refine tri_seq ?_
    refine tri_cond (b := (decide ((i : Int) < (m0 : Int)))) rfl (fun hc => ?_) (fun hc => ?_)
    · replace hc := of_decide_eq_true hc
      refine tri_skip ?_
      refine next rfl rfl rfl ?_
      refine tri_seq ?_
      refine tri_block ?_
      refine tri_seq ?_
      obtain ⟨ad15, A15z, n15z, c15z, ha15, he15, hl15, hc15e⟩ := rw_at (dGik k) k0 i (by omega)
      refine tri_reg mixed [.con (.int .i64 (i : Int)), .con (.pointer (some (ad15.add (((i : Int) : Int).toNat * 1)))), .con (.slice A15z n15z c15z), .con (.int .i64 (i : Int)), .con (.slice A15z n15z c15z)] [1, 3, 4, 29, 30, 31] [0] [] ?_ (by decide) ?_ ?_ _ _
      · kernel_rfl
      · exact ⟨pu, ix (kk := .i64) (n := m0) (c := e0) sl25 ha15 (by omega) (by omega), li ty24 (vs := [.slice A15z n15z c15z]) hc15e rfl, pu, pu, trivial⟩
      rintro p14 x14 u14 hg14 -
      replace h0 := h0.sub (dGik k) hg14.1; replace he15 := he15.sub (dGik k) hg14.1; replace k0 := k0.sub (dRwk (dGik k)) hg14.1
      have hG14 := hG13.trans hg14
      refine next (g' := [(1, pt (p1 0) 0), (3, .int .i64 (i : Int)), (4, .slice A15z n15z c15z), (29, .slice E0 m0 e0), (30, .int .i64 (m0 : Int)), (31, .int .i64 (i : Int))]) (bx' := [⟨p1 0, 27, [.slice A0 n0 c0, .slice E0 m0 e0]⟩]) (rw' := []) (by kernel_rfl) (by kernel_rfl) (by kernel_rfl) ?_
      refine tri_seq ?_
      rcases tri3 ((L.getD i []).length ≠ i) (¬ 0 < D.getD (i + 1) 0) with r3 | ⟨r3, r4⟩ | ⟨r3, r4⟩
      · refine tri_reg mixed [.con (.slice A15z n15z c15z), .con (.int .i64 (n15z : Int)), .con (.int .i64 (i : Int)), .con (.bool true), .con (.bool true), .con undef, .con undef, .con undef, .con undef, .con undef, .con undef, .con undef, .con undef, .con (.bool true)] [1, 29, 30, 31, 49] [0] [] ?_ (by decide) ?_ ?_ _ _
        · kernel_rfl
        · exact ⟨pu, pu, pu, pw (bnt (a := (n15z : Int)) (b := (i : Int)) (by omega)), pu, trivial, trivial, trivial, trivial, trivial, trivial, trivial, trivial, pu, trivial⟩
        rintro p16 x16 u16 hg16 -
        replace h0 := h0.sub (dGik k) hg16.1; replace he15 := he15.sub (dGik k) hg16.1; replace k0 := k0.sub (dRwk (dGik k)) hg16.1
        have hG16 := hG14.trans hg16
        refine next (g' := [(1, pt (p1 0) 0), (29, .slice E0 m0 e0), (30, .int .i64 (m0 : Int)), (31, .int .i64 (i : Int)), (49, .bool true)]) (bx' := [⟨p1 0, 27, [.slice A0 n0 c0, .slice E0 m0 e0]⟩]) (rw' := []) (by kernel_rfl) (by kernel_rfl) (by kernel_rfl) ?_
        refine tri_true rfl ?_
        refine tri_seq ?_
        refine tri_reg mixed [.con (.bool false)] [2] [] [] ?_ (by decide) ?_ ?_ _ _
        · kernel_rfl
        · exact ⟨pu, trivial⟩
        rintro p17 x17 u17 hg17 -
        replace h0 := h0.sub (dGik k) hg17.1; replace k0 := k0.sub (dRwk (dGik k)) hg17.1
        have hG17 := hG16.trans hg17
        refine next (g' := [(2, .bool false)]) (bx' := []) (rw' := []) (by kernel_rfl) (by kernel_rfl) (by kernel_rfl) ?_
        exact tri_ret (ret1 rfl (.bool false) rfl hG17 ((not_true hb (fun h => by first | exact r0 h.1 | exact h.1 r0 | exact r1 h.2.1 | exact r2 h.2.2.1 | exact r3 (h.2.2.2 i (by omega)).1 | exact r4 (h.2.2.2 i (by omega)).2))))
      · replace r3 := nn r3
        obtain ⟨ad18, s18z, A18z, n18z, c18z, ha18, he18, hc18e⟩ := gi_at h0 (i + 1) (by omega)
        refine tri_reg mixed [.con (.slice A15z n15z c15z), .con (.int .i64 (n15z : Int)), .con (.int .i64 (i : Int)), .con (.bool false), .con (.bool false), .con (pt (p1 0) 0), .con (.slice A0 n0 c0), .con (.int .i64 (i : Int)), .con (.int .i64 ((i + 1 : Nat) : Int)), .con (.pointer (some (ad18.add ((((i + 1 : Nat) : Int) : Int).toNat * 2)))), .con (.agg #[.bool s18z, .slice A18z n18z c18z]), .con (.int .i64 (sg (D.getD (i + 1) 0))), .con (.bool true), .con (.bool true)] [1, 29, 30, 31, 49] [0] [] ?_ (by decide) ?_ ?_ _ _
        · kernel_rfl
        · exact ⟨pu, pu, pu, pw (bnf (a := (n15z : Int)) (b := (i : Int)) (by omega)), pu, pu, ld 0 0 1 ty24, pu, pw (w64 (n := (i : Int) + 1) (by omega)), ix (kk := .i64) (n := n0) (c := c0) sl24 ha18 (by omega) (by omega), li ty31 (vs := [.bool s18z, .slice A18z n18z c18z]) hc18e rfl, cc fun f u w hs => (z_Sign ⟨_, _, _, _, rfl, he18.sub hs.old⟩ (by omega)), pw (bt (p := (sg (D.getD (i + 1) 0)) ≤ 0) (by exact sg_le r4)), pu, trivial⟩
        rintro p19 x19 u19 hg19 -
        replace h0 := h0.sub (dGik k) hg19.1; replace he15 := he15.sub (dGik k) hg19.1; replace he18 := he18.sub hg19.1; replace k0 := k0.sub (dRwk (dGik k)) hg19.1
        have hG19 := hG14.trans hg19
        refine next (g' := [(1, pt (p1 0) 0), (29, .slice E0 m0 e0), (30, .int .i64 (m0 : Int)), (31, .int .i64 (i : Int)), (49, .bool true)]) (bx' := [⟨p1 0, 27, [.slice A0 n0 c0, .slice E0 m0 e0]⟩]) (rw' := []) (by kernel_rfl) (by kernel_rfl) (by kernel_rfl) ?_
        refine tri_true rfl ?_
        refine tri_seq ?_
        refine tri_reg mixed [.con (.bool false)] [2] [] [] ?_ (by decide) ?_ ?_ _ _
        · kernel_rfl
        · exact ⟨pu, trivial⟩
        rintro p20 x20 u20 hg20 -
        replace h0 := h0.sub (dGik k) hg20.1; replace k0 := k0.sub (dRwk (dGik k)) hg20.1
        have hG20 := hG19.trans hg20
        refine next (g' := [(2, .bool false)]) (bx' := []) (rw' := []) (by kernel_rfl) (by kernel_rfl) (by kernel_rfl) ?_
        exact tri_ret (ret1 rfl (.bool false) rfl hG20 ((not_true hb (fun h => by first | exact r0 h.1 | exact h.1 r0 | exact r1 h.2.1 | exact r2 h.2.2.1 | exact r3 (h.2.2.2 i (by omega)).1 | exact r4 (h.2.2.2 i (by omega)).2))))
      · replace r3 := nn r3
        replace r4 := nn r4
        obtain ⟨ad21, s21z, A21z, n21z, c21z, ha21, he21, hc21e⟩ := gi_at h0 (i + 1) (by omega)
        have hg' : ∀ j, j < i + 1 → (L.getD j []).length = j ∧ 0 < D.getD (j + 1) 0 := fun j hj => by rcases Nat.lt_or_eq_of_le (Nat.le_of_lt_succ hj) with h | h; exact hg j h; exact h ▸ ⟨r3, r4⟩
        refine tri_reg mixed [.con (.slice A15z n15z c15z), .con (.int .i64 (n15z : Int)), .con (.int .i64 (i : Int)), .con (.bool false), .con (.bool false), .con (pt (p1 0) 0), .con (.slice A0 n0 c0), .con (.int .i64 (i : Int)), .con (.int .i64 ((i + 1 : Nat) : Int)), .con (.pointer (some (ad21.add ((((i + 1 : Nat) : Int) : Int).toNat * 2)))), .con (.agg #[.bool s21z, .slice A21z n21z c21z]), .con (.int .i64 (sg (D.getD (i + 1) 0))), .con (.bool false), .con (.bool false)] [1, 29, 30, 31, 49] [0] [] ?_ (by decide) ?_ ?_ _ _
        · kernel_rfl
        · exact ⟨pu, pu, pu, pw (bnf (a := (n15z : Int)) (b := (i : Int)) (by omega)), pu, pu, ld 0 0 1 ty24, pu, pw (w64 (n := (i : Int) + 1) (by omega)), ix (kk := .i64) (n := n0) (c := c0) sl24 ha21 (by omega) (by omega), li ty31 (vs := [.bool s21z, .slice A21z n21z c21z]) hc21e rfl, cc fun f u w hs => (z_Sign ⟨_, _, _, _, rfl, he21.sub hs.old⟩ (by omega)), pw (bf (p := (sg (D.getD (i + 1) 0)) ≤ 0) (by exact sg_gt r4)), pu, trivial⟩
        rintro p22 x22 u22 hg22 -
        replace h0 := h0.sub (dGik k) hg22.1; replace he15 := he15.sub (dGik k) hg22.1; replace he21 := he21.sub hg22.1; replace k0 := k0.sub (dRwk (dGik k)) hg22.1
        have hG22 := hG14.trans hg22
        refine next (g' := [(1, pt (p1 0) 0), (29, .slice E0 m0 e0), (30, .int .i64 (m0 : Int)), (31, .int .i64 (i : Int)), (49, .bool false)]) (bx' := [⟨p1 0, 27, [.slice A0 n0 c0, .slice E0 m0 e0]⟩]) (rw' := []) (by kernel_rfl) (by kernel_rfl) (by kernel_rfl) ?_
        refine tri_false rfl ?_
        refine tri_skip ?_
        refine pn_blk ?_
        refine next rfl rfl rfl ?_
        refine tri_reg mixed [.con (.int .i64 ((i : Int) + 1)), .con (.int .i64 ((i : Int) + 1))] [1, 29, 30, 31] [0] [] ?_ (by decide) ?_ ?_ _ _
        · kernel_rfl
        · exact ⟨pw (w64 (n := (i : Int) + 1) (by omega)), pu, trivial⟩
        rintro p23 x23 u23 hg23 -
        replace h0 := h0.sub (dGik k) hg23.1; replace k0 := k0.sub (dRwk (dGik k)) hg23.1
        have hG23 := hG22.trans hg23
        exact PN.sub (g' := [(1, pt (p1 0) 0), (29, .slice E0 m0 e0), (30, .int .i64 (m0 : Int)), (31, .int .i64 ((i + 1) : Int))]) (bx' := [⟨p1 0, 27, [.slice A0 n0 c0, .slice E0 m0 e0]⟩]) (rw' := []) ⟨rfl, rfl, rfl, (by first | rfl | (simp)), trivial⟩ rfl rfl (pn_at (m' := m0 - (i + 1)) (by omega) ⟨i + 1, rfl, ((((hg12).trans hg13).trans hg14).trans hg22).trans hg23, by omega, hg', rfl, rfl, rfl⟩)
    · replace hc := of_decide_eq_false hc
      refine tri_exit ?_
      repeat refine pn_then (by simp) ?_
      refine pn_ex ?_
      refine next rfl rfl rfl ?_
      refine tri_seq ?_
      refine tri_reg mixed [.con (.bool true)] [2] [] [] ?_ (by decide) ?_ ?_ _ _
      · kernel_rfl
      · exact ⟨pu, trivial⟩
      rintro p24 x24 u24 hg24 -
      replace h0 := h0.sub (dGik k) hg24.1; replace k0 := k0.sub (dRwk (dGik k)) hg24.1
      have hG24 := hG13.trans hg24
      refine next (g' := [(2, .bool true)]) (bx' := []) (rw' := []) (by kernel_rfl) (by kernel_rfl) (by kernel_rfl) ?_
      exact tri_ret (ret1 rfl (.bool true) rfl hG24 ((is_true hb ⟨r0, r1, r2, fun j hj => hg j (by omega)⟩)))

theorem good_pos {D : List Int} {L : List (List Int)} (h : GoodP D L) {i : Nat} (hi : i < D.length) : 0 < D.getD i 0 := by
  rcases Nat.eq_zero_or_pos i with h0 | h0
  · subst h0; rw [h.2.2.1]; omega
  · obtain ⟨j, rfl⟩ : ∃ j, i = j + 1 := ⟨i - 1, by omega⟩
    exact (h.2.2.2 j (by have := h.2.1; omega)).2
theorem ci_zero (u : World) : CI u false none 0 0 0 := ⟨by decide, by rw [Int.natAbs_zero]; exact ⟨Nat.le_refl _, by rw [dig_zero]; exact ReadsInt.none⟩⟩
theorem CQv.p {u : World} {v : Value} {q : Rat} (h : CQv u v q) : Pv u v q.num q.den := h

set_option maxRecDepth 100000 in
theorem r05_Good {u : World} {D : List Int} {L : List (List Int)} {k : Nat} {b : Bool} {v0 : Value} (h0 : Gv u v0 D L k) (hk : k ≤ 1099511627776) (hlL : L.length ≤ 1099511627776) (hb : b = true ↔ GoodP D L) : Fn Try.prog 50 #[v0] u (Is (.bool b)) := by
  obtain ⟨A0, n0, c0, E0, m0, e0, rfl, h0, k0⟩ := h0; have l0 := h0.len; have j0 := k0.len
  refine fn_of (args := [_]) Try.func50 rfl (by show 1 ≤ 57; decide) ?_
  intro w0 hs0
  have hG0 := Gr.refl w0.heap.size u
  refine tri_seq ?_
  refine tri_reg mixed [.new 27 [.slice A0 n0 c0, .slice E0 m0 e0], .con (.bool false)] [1] [0] [] ?_ (by decide) ?_ ?_ _ _
  · kernel_rfl
  · exact ⟨al, pu, trivial⟩
  rintro p1 x1 u1 hg1 -
  replace h0 := h0.sub (dGik k) hg1.1; replace k0 := k0.sub (dRwk (dGik k)) hg1.1
  have hG1 := hG0.trans hg1
  refine next (g' := [(1, pt (p1 0) 0)]) (bx' := [⟨p1 0, 27, [.slice A0 n0 c0, .slice E0 m0 e0]⟩]) (rw' := []) (by kernel_rfl) (by kernel_rfl) (by kernel_rfl) ?_
  refine tri_seq ?_
  refine tri_seq ?_
  rcases four (L.length = 0) (D.length = L.length + 1) (D.getD 0 0 = 1) with r0 | ⟨r0, r1⟩ | ⟨r0, r1, r2⟩ | ⟨r0, r1, r2⟩
  · refine tri_reg mixed [.con (pt (p1 0) 1), .con (.slice E0 m0 e0), .con (.int .i64 (m0 : Int)), .con (.bool true), .con (.bool true), .con undef, .con undef, .con undef, .con undef, .con undef, .con undef, .con undef, .con undef, .con (.bool true), .con (.bool true), .con undef, .con undef, .con undef, .con undef, .con undef, .con undef, .con undef, .con (.bool true)] [1, 27] [0] [] ?_ (by decide) ?_ ?_ _ _
    · kernel_rfl
    · exact ⟨pu, ld 0 1 1 ty25, pu, pw (bet (a := (m0 : Int)) (b := 0) (by omega)), pu, trivial, trivial, trivial, trivial, trivial, trivial, trivial, trivial, pu, pu, trivial, trivial, trivial, trivial, trivial, trivial, trivial, pu, trivial⟩
    rintro p2 x2 u2 hg2 -
    replace h0 := h0.sub (dGik k) hg2.1; replace k0 := k0.sub (dRwk (dGik k)) hg2.1
    have hG2 := hG1.trans hg2
    refine next (g' := [(1, pt (p1 0) 0), (27, .bool true)]) (bx' := [⟨p1 0, 27, [.slice A0 n0 c0, .slice E0 m0 e0]⟩]) (rw' := []) (by kernel_rfl) (by kernel_rfl) (by kernel_rfl) ?_
    refine tri_true rfl ?_
    refine tri_seq ?_
    refine tri_reg mixed [.con (.bool false)] [2] [] [] ?_ (by decide) ?_ ?_ _ _
    · kernel_rfl
    · exact ⟨pu, trivial⟩
    rintro p3 x3 u3 hg3 -
    replace h0 := h0.sub (dGik k) hg3.1; replace k0 := k0.sub (dRwk (dGik k)) hg3.1
    have hG3 := hG2.trans hg3
    refine next (g' := [(2, .bool false)]) (bx' := []) (rw' := []) (by kernel_rfl) (by kernel_rfl) (by kernel_rfl) ?_
    exact tri_ret (ret1 rfl (.bool false) rfl hG3 ((not_true hb (fun h => by first | exact r0 h.1 | exact h.1 r0 | exact r1 h.2.1 | exact r2 h.2.2.1 | exact r3 (h.2.2.2 i2 (by omega)).1 | exact r4 (good_pos h (i := i) (by omega))))))
  · refine tri_reg mixed [.con (pt (p1 0) 1), .con (.slice E0 m0 e0), .con (.int .i64 (m0 : Int)), .con (.bool false), .con (.bool false), .con (pt (p1 0) 0), .con (.slice A0 n0 c0), .con (.int .i64 (n0 : Int)), .con (pt (p1 0) 1), .con (.slice E0 m0 e0), .con (.int .i64 (m0 : Int)), .con (.int .i64 ((m0 : Int) + 1)), .con (.bool true), .con (.bool true), .con (.bool true), .con undef, .con undef, .con undef, .con undef, .con undef, .con undef, .con undef, .con (.bool true)] [1, 27] [0] [] ?_ (by decide) ?_ ?_ _ _
    · kernel_rfl
    · exact ⟨pu, ld 0 1 1 ty25, pu, pw (bef (a := (m0 : Int)) (b := 0) (by omega)), pu, pu, ld 0 0 1 ty24, pu, pu, ld 0 1 1 ty25, pu, pw (w64 (n := (m0 : Int) + 1) (by omega)), pw (bnt (a := (n0 : Int)) (b := ((m0 : Int) + 1)) (by omega)), pu, pu, trivial, trivial, trivial, trivial, trivial, trivial, trivial, pu, trivial⟩
    rintro p4 x4 u4 hg4 -
    replace h0 := h0.sub (dGik k) hg4.1; replace k0 := k0.sub (dRwk (dGik k)) hg4.1
    have hG4 := hG1.trans hg4
    refine next (g' := [(1, pt (p1 0) 0), (27, .bool true)]) (bx' := [⟨p1 0, 27, [.slice A0 n0 c0, .slice E0 m0 e0]⟩]) (rw' := []) (by kernel_rfl) (by kernel_rfl) (by kernel_rfl) ?_
    refine tri_true rfl ?_
    refine tri_seq ?_
    refine tri_reg mixed [.con (.bool false)] [2] [] [] ?_ (by decide) ?_ ?_ _ _
    · kernel_rfl
    · exact ⟨pu, trivial⟩
    rintro p5 x5 u5 hg5 -
    replace h0 := h0.sub (dGik k) hg5.1; replace k0 := k0.sub (dRwk (dGik k)) hg5.1
    have hG5 := hG4.trans hg5
    refine next (g' := [(2, .bool false)]) (bx' := []) (rw' := []) (by kernel_rfl) (by kernel_rfl) (by kernel_rfl) ?_
    exact tri_ret (ret1 rfl (.bool false) rfl hG5 ((not_true hb (fun h => by first | exact r0 h.1 | exact h.1 r0 | exact r1 h.2.1 | exact r2 h.2.2.1 | exact r3 (h.2.2.2 i2 (by omega)).1 | exact r4 (good_pos h (i := i) (by omega))))))
  · obtain ⟨ad6, s6z, A6z, n6z, c6z, ha6, he6, hc6e⟩ := gi_at h0 0 (by omega)
    refine tri_reg mixed [.con (pt (p1 0) 1), .con (.slice E0 m0 e0), .con (.int .i64 (m0 : Int)), .con (.bool false), .con (.bool false), .con (pt (p1 0) 0), .con (.slice A0 n0 c0), .con (.int .i64 (n0 : Int)), .con (pt (p1 0) 1), .con (.slice E0 m0 e0), .con (.int .i64 (m0 : Int)), .con (.int .i64 ((m0 : Int) + 1)), .con (.bool false), .con (.bool false), .con (.bool false), .con (pt (p1 0) 0), .con (.slice A0 n0 c0), .con (.pointer (some (ad6.add ((0 : Int).toNat * 2)))), .con (.agg #[.bool s6z, .slice A6z n6z c6z]), .opq (fun u r => Cv u r 1), .con (.int .i64 (sg ((D.getD 0 0) - 1))), .con (.bool true), .con (.bool true)] [1, 27] [0] [] ?_ (by decide) ?_ ?_ _ _
    · kernel_rfl
    · exact ⟨pu, ld 0 1 1 ty25, pu, pw (bef (a := (m0 : Int)) (b := 0) (by omega)), pu, pu, ld 0 0 1 ty24, pu, pu, ld 0 1 1 ty25, pu, pw (w64 (n := (m0 : Int) + 1) (by omega)), pw (bnf (a := (n0 : Int)) (b := ((m0 : Int) + 1)) (by omega)), pu, pu, pu, ld 0 0 1 ty24, ix (kk := .i64) (n := n0) (c := c0) sl24 ha6 (by omega) (by omega), li ty31 (vs := [.bool s6z, .slice A6z n6z c6z]) hc6e rfl, ca (Cv.m _) fun f u w hs => (r02_Of (by omega) (by omega)), cc fun f u w hs => (r02_Cmp ⟨_, _, _, _, rfl, he6.sub hs.old⟩ ((hs.opq 19 _ rfl rfl).iv (zl_of (by omega) (by omega))) (by omega) (by omega)), pw (bnt (a := (sg ((D.getD 0 0) - 1))) (b := 0) (by exact fun h => r2 (by have := sg_iff.1 h; omega))), pu, trivial⟩
    rintro p7 x7 u7 hg7 ⟨q19, -⟩
    replace h0 := h0.sub (dGik k) hg7.1; replace he6 := he6.sub hg7.1; replace k0 := k0.sub (dRwk (dGik k)) hg7.1
    have hG7 := hG1.trans hg7
    refine next (g' := [(1, pt (p1 0) 0), (27, .bool true)]) (bx' := [⟨p1 0, 27, [.slice A0 n0 c0, .slice E0 m0 e0]⟩]) (rw' := []) (by kernel_rfl) (by kernel_rfl) (by kernel_rfl) ?_
    refine tri_true rfl ?_
    refine tri_seq ?_
    refine tri_reg mixed [.con (.bool false)] [2] [] [] ?_ (by decide) ?_ ?_ _ _
    · kernel_rfl
    · exact ⟨pu, trivial⟩
    rintro p8 x8 u8 hg8 -
    replace h0 := h0.sub (dGik k) hg8.1; replace k0 := k0.sub (dRwk (dGik k)) hg8.1
    have hG8 := hG7.trans hg8
    refine next (g' := [(2, .bool false)]) (bx' := []) (rw' := []) (by kernel_rfl) (by kernel_rfl) (by kernel_rfl) ?_
    exact tri_ret (ret1 rfl (.bool false) rfl hG8 ((not_true hb (fun h => by first | exact r0 h.1 | exact h.1 r0 | exact r1 h.2.1 | exact r2 h.2.2.1 | exact r3 (h.2.2.2 i2 (by omega)).1 | exact r4 (good_pos h (i := i) (by omega))))))
  · obtain ⟨ad9, s9z, A9z, n9z, c9z, ha9, he9, hc9e⟩ := gi_at h0 0 (by omega)
    refine tri_reg mixed [.con (pt (p1 0) 1), .con (.slice E0 m0 e0), .con (.int .i64 (m0 : Int)), .con (.bool false), .con (.bool false), .con (pt (p1 0) 0), .con (.slice A0 n0 c0), .con (.int .i64 (n0 : Int)), .con (pt (p1 0) 1), .con (.slice E0 m0 e0), .con (.int .i64 (m0 : Int)), .con (.int .i64 ((m0 : Int) + 1)), .con (.bool false), .con (.bool false), .con (.bool false), .con (pt (p1 0) 0), .con (.slice A0 n0 c0), .con (.pointer (some (ad9.add ((0 : Int).toNat * 2)))), .con (.agg #[.bool s9z, .slice A9z n9z c9z]), .opq (fun u r => Cv u r 1), .con (.int .i64 (sg ((D.getD 0 0) - 1))), .con (.bool false), .con (.bool false)] [1, 27] [0] [] ?_ (by decide) ?_ ?_ _ _
    · kernel_rfl
    · exact ⟨pu, ld 0 1 1 ty25, pu, pw (bef (a := (m0 : Int)) (b := 0) (by omega)), pu, pu, ld 0 0 1 ty24, pu, pu, ld 0 1 1 ty25, pu, pw (w64 (n := (m0 : Int) + 1) (by omega)), pw (bnf (a := (n0 : Int)) (b := ((m0 : Int) + 1)) (by omega)), pu, pu, pu, ld 0 0 1 ty24, ix (kk := .i64) (n := n0) (c := c0) sl24 ha9 (by omega) (by omega), li ty31 (vs := [.bool s9z, .slice A9z n9z c9z]) hc9e rfl, ca (Cv.m _) fun f u w hs => (r02_Of (by omega) (by omega)), cc fun f u w hs => (r02_Cmp ⟨_, _, _, _, rfl, he9.sub hs.old⟩ ((hs.opq 19 _ rfl rfl).iv (zl_of (by omega) (by omega))) (by omega) (by omega)), pw (bnf (a := (sg ((D.getD 0 0) - 1))) (b := 0) (by exact sg_iff.2 (by omega))), pu, trivial⟩
    rintro p10 x10 u10 hg10 ⟨q19, -⟩
    replace h0 := h0.sub (dGik k) hg10.1; replace he9 := he9.sub hg10.1; replace k0 := k0.sub (dRwk (dGik k)) hg10.1
    have hG10 := hG1.trans hg10
    refine next (g' := [(1, pt (p1 0) 0), (27, .bool false)]) (bx' := [⟨p1 0, 27, [.slice A0 n0 c0, .slice E0 m0 e0]⟩]) (rw' := []) (by kernel_rfl) (by kernel_rfl) (by kernel_rfl) ?_
    refine tri_false rfl ?_
    refine tri_skip ?_
    refine next rfl rfl rfl ?_
    refine tri_seq ?_
    refine tri_seq ?_
    refine tri_reg mixed [.con (.int .i64 0)] [1, 3] [0] [] ?_ (by decide) ?_ ?_ _ _
    · kernel_rfl
    · exact ⟨pu, trivial⟩
    rintro p11 x11 u11 hg11 -
    replace h0 := h0.sub (dGik k) hg11.1; replace k0 := k0.sub (dRwk (dGik k)) hg11.1
    have hG11 := hG10.trans hg11
    refine next (g' := [(1, pt (p1 0) 0), (3, .int .i64 0)]) (bx' := [⟨p1 0, 27, [.slice A0 n0 c0, .slice E0 m0 e0]⟩]) (rw' := []) (by kernel_rfl) (by kernel_rfl) (by kernel_rfl) ?_
    refine tri_block ?_
    refine tri_loop (fun m_ g_ bx_ rw_ u_ => ∃ (i : Nat), (m_ = n0 - i ∧ Gr w0.heap.size u11 u_ ∧ i ≤ n0 ∧ (∀ j, j < i → 0 < D.getD j 0) ∧ g_ = [(1, pt (p1 0) 0), (3, .int .i64 (i : Int))] ∧ bx_ = [⟨p1 0, 27, [.slice A0 n0 c0, .slice E0 m0 e0]⟩] ∧ rw_ = [])) (n0 - 0) ⟨0, rfl, Gr.refl _ _, Nat.zero_le _, fun j hj => absurd hj (Nat.not_lt_zero j), rfl, rfl, rfl⟩ ?_
    rintro m_ g_ bx_ rw_ u12 ⟨i, hm_, hg12, hi, hg1, rfl, rfl, rfl⟩
    replace h0 := h0.sub (dGik k) hg12.1; replace k0 := k0.sub (dRwk (dGik k)) hg12.1
    have hG12 := hG11.trans hg12
    refine tri_seq ?_
    refine tri_seq ?_
    refine tri_reg mixed [.con (.int .i64 (i : Int)), .con (pt (p1 0) 0), .con (.slice A0 n0 c0), .con (.int .i64 (n0 : Int)), .con (.bool (decide ((i : Int) < (n0 : Int))))] [1, 3, 32] [0] [] ?_ (by decide) ?_ ?_ _ _
    · kernel_rfl
    · exact ⟨pu, pu, ld 0 0 1 ty24, pu, pu, trivial⟩
    rintro p13 x13 u13 hg13 -
    replace h0 := h0.sub (dGik k) hg13.1; replace k0 := k0.sub (dRwk (dGik k)) hg13.1
    have hG13 := hG12.trans hg13
    refine next (g' := [(1, pt (p1 0) 0), (3, .int .i64 (i : Int)), (32, .bool (decide ((i : Int) < (n0 : Int))))]) (bx' := [⟨p1 0, 27, [.slice A0 n0 c0, .slice E0 m0 e0]⟩]) (rw' := []) (by kernel_rfl) (by kernel_rfl) (by kernel_rfl) ?_
    refine tri_cond (b := (decide ((i : Int) < (n0 : Int)))) rfl (fun hc => ?_) (fun hc => ?_)
    · replace hc := of_decide_eq_true hc
      refine tri_skip ?_
      refine next rfl rfl rfl ?_
      refine tri_seq ?_
      refine tri_block ?_
      refine tri_seq ?_
      rcases Classical.em (0 < D.getD i 0) with r4 | r4
      · obtain ⟨ad15, s15z, A15z, n15z, c15z, ha15, he15, hc15e⟩ := gi_at h0 i (by omega)
        refine tri_reg mixed [.con (pt (p1 0) 0), .con (.slice A0 n0 c0), .con (.int .i64 (i : Int)), .con (.pointer (some (ad15.add (((i : Int) : Int).toNat * 2)))), .con (.agg #[.bool s15z, .slice A15z n15z c15z]), .con (.int .i64 (sg (D.getD i 0))), .con (.bool false)] [1, 3, 41] [0] [] ?_ (by decide) ?_ ?_ _ _
        · kernel_rfl
        · exact ⟨pu, ld 0 0 1 ty24, pu, ix (kk := .i64) (n := n0) (c := c0) sl24 ha15 (by omega) (by omega), li ty31 (vs := [.bool s15z, .slice A15z n15z c15z]) hc15e rfl, cc fun f u w hs => (r02_Sign ⟨_, _, _, _, rfl, he15.sub hs.old⟩ (by omega)), pw (bf (p := (sg (D.getD i 0)) ≤ 0) (by exact sg_gt r4)), trivial⟩
        rintro p14 x14 u14 hg14 -
        replace h0 := h0.sub (dGik k) hg14.1; replace he15 := he15.sub hg14.1; replace k0 := k0.sub (dRwk (dGik k)) hg14.1
        have hG14 := hG13.trans hg14
        refine next (g' := [(1, pt (p1 0) 0), (3, .int .i64 (i : Int)), (41, .bool false)]) (bx' := [⟨p1 0, 27, [.slice A0 n0 c0, .slice E0 m0 e0]⟩]) (rw' := []) (by kernel_rfl) (by kernel_rfl) (by kernel_rfl) ?_
        refine tri_false rfl ?_
        refine tri_skip ?_
        refine pn_blk ?_
        refine next rfl rfl rfl ?_
        refine tri_reg mixed [.con (.int .i64 (i : Int)), .con (.int .i64 ((i : Int) + 1)), .con (.int .i64 ((i : Int) + 1))] [1, 3] [0] [] ?_ (by decide) ?_ ?_ _ _
        · kernel_rfl
        · exact ⟨pu, pw (w64 (n := (i : Int) + 1) (by omega)), pu, trivial⟩
        rintro p16 x16 u16 hg16 -
        replace h0 := h0.sub (dGik k) hg16.1; replace k0 := k0.sub (dRwk (dGik k)) hg16.1
        have hG16 := hG14.trans hg16
        exact PN.sub (g' := [(1, pt (p1 0) 0), (3, .int .i64 ((i + 1) : Int))]) (bx' := [⟨p1 0, 27, [.slice A0 n0 c0, .slice E0 m0 e0]⟩]) (rw' := []) ⟨rfl, (by first | rfl | (simp)), trivial⟩ rfl rfl (pn_at (m' := n0 - (i + 1)) (by omega) ⟨i + 1, rfl, (((hg12).trans hg13).trans hg14).trans hg16, by omega, fun j hj => by rcases Nat.lt_or_eq_of_le (Nat.le_of_lt_succ hj) with h | h; exact hg1 j h; exact h ▸ r4, rfl, rfl, rfl⟩)
      · obtain ⟨ad18, s18z, A18z, n18z, c18z, ha18, he18, hc18e⟩ := gi_at h0 i (by omega)
        refine tri_reg mixed [.con (pt (p1 0) 0), .con (.slice A0 n0 c0), .con (.int .i64 (i : Int)), .con (.pointer (some (ad18.add (((i : Int) : Int).toNat * 2)))), .con (.agg #[.bool s18z, .slice A18z n18z c18z]), .con (.int .i64 (sg (D.getD i 0))), .con (.bool true)] [1, 3, 41] [0] [] ?_ (by decide) ?_ ?_ _ _
        · kernel_rfl
        · exact ⟨pu, ld 0 0 1 ty24, pu, ix (kk := .i64) (n := n0) (c := c0) sl24 ha18 (by omega) (by omega), li ty31 (vs := [.bool s18z, .slice A18z n18z c18z]) hc18e rfl, cc fun f u w hs => (r02_Sign ⟨_, _, _, _, rfl, he18.sub hs.old⟩ (by omega)), pw (bt (p := (sg (D.getD i 0)) ≤ 0) (by exact sg_le r4)), trivial⟩
        rintro p17 x17 u17 hg17 -
        replace h0 := h0.sub (dGik k) hg17.1; replace he18 := he18.sub hg17.1; replace k0 := k0.sub (dRwk (dGik k)) hg17.1
        have hG17 := hG13.trans hg17
        refine next (g' := [(1, pt (p1 0) 0), (3, .int .i64 (i : Int)), (41, .bool true)]) (bx' := [⟨p1 0, 27, [.slice A0 n0 c0, .slice E0 m0 e0]⟩]) (rw' := []) (by kernel_rfl) (by kernel_rfl) (by kernel_rfl) ?_
        refine tri_true rfl ?_
        refine tri_seq ?_
        refine tri_reg mixed [.con (.bool false)] [2] [] [] ?_ (by decide) ?_ ?_ _ _
        · kernel_rfl
        · exact ⟨pu, trivial⟩
        rintro p19 x19 u19 hg19 -
        replace h0 := h0.sub (dGik k) hg19.1; replace k0 := k0.sub (dRwk (dGik k)) hg19.1
        have hG19 := hG17.trans hg19
        refine next (g' := [(2, .bool false)]) (bx' := []) (rw' := []) (by kernel_rfl) (by kernel_rfl) (by kernel_rfl) ?_
        exact tri_ret (ret1 rfl (.bool false) rfl hG19 ((not_true hb (fun h => by first | exact r0 h.1 | exact h.1 r0 | exact r1 h.2.1 | exact r2 h.2.2.1 | exact r3 (h.2.2.2 i2 (by omega)).1 | exact r4 (good_pos h (i := i) (by omega))))))
    · replace hc := of_decide_eq_false hc
      refine tri_exit ?_
      repeat refine pn_then (by simp) ?_
      refine pn_ex ?_
      refine next rfl rfl rfl ?_
      refine tri_seq ?_
      refine tri_seq ?_
      refine tri_reg mixed [.con (.int .i64 0)] [1, 4] [0] [] ?_ (by decide) ?_ ?_ _ _
      · kernel_rfl
      · exact ⟨pu, trivial⟩
      rintro p20 x20 u20 hg20 -
      replace h0 := h0.sub (dGik k) hg20.1; replace k0 := k0.sub (dRwk (dGik k)) hg20.1
      have hG20 := hG13.trans hg20
      refine next (g' := [(1, pt (p1 0) 0), (4, .int .i64 0)]) (bx' := [⟨p1 0, 27, [.slice A0 n0 c0, .slice E0 m0 e0]⟩]) (rw' := []) (by kernel_rfl) (by kernel_rfl) (by kernel_rfl) ?_
      refine tri_block ?_
      refine tri_loop (fun m_ g_ bx_ rw_ u_ => ∃ (i2 : Nat), (m_ = m0 - i2 ∧ Gr w0.heap.size u20 u_ ∧ i2 ≤ m0 ∧ (∀ j, j < i2 → (L.getD j []).length = j) ∧ g_ = [(1, pt (p1 0) 0), (4, .int .i64 (i2 : Int))] ∧ bx_ = [⟨p1 0, 27, [.slice A0 n0 c0, .slice E0 m0 e0]⟩] ∧ rw_ = [])) (m0 - 0) ⟨0, rfl, Gr.refl _ _, Nat.zero_le _, fun j hj => absurd hj (Nat.not_lt_zero j), rfl, rfl, rfl⟩ ?_
      rintro m_ g_ bx_ rw_ u21 ⟨i2, hm_, hg21, hi2, hg2, rfl, rfl, rfl⟩
      replace h0 := h0.sub (dGik k) hg21.1; replace k0 := k0.sub (dRwk (dGik k)) hg21.1
      have hG21 := hG20.trans hg21
      refine tri_seq ?_
      refine tri_seq ?_
      refine tri_reg mixed [.con (.int .i64 (i2 : Int)), .con (pt (p1 0) 1), .con (.slice E0 m0 e0), .con (.int .i64 (m0 : Int)), .con (.bool (decide ((i2 : Int) < (m0 : Int))))] [1, 4, 46] [0] [] ?_ (by decide) ?_ ?_ _ _
      · kernel_rfl
      · exact ⟨pu, pu, ld 0 1 1 ty25, pu, pu, trivial⟩
      rintro p22 x22 u22 hg22 -
      replace h0 := h0.sub (dGik k) hg22.1; replace k0 := k0.sub (dRwk (dGik k)) hg22.1
      have hG22 := hG21.trans hg22
      refine next (g' := [(1, pt (p1 0) 0), (4, .int .i64 (i2 : Int)), (46, .bool (decide ((i2 : Int) < (m0 : Int))))]) (bx' := [⟨p1 0, 27, [.slice A0 n0 c0, .slice E0 m0 e0]⟩]) (rw' := []) (by kernel_rfl) (by kernel_rfl) (by kernel_rfl) ?_
      refine tri_cond (b := (decide ((i2 : Int) < (m0 : Int)))) rfl (fun hc => ?_) (fun hc => ?_)
      · replace hc := of_decide_eq_true hc
        refine tri_skip ?_
        refine next rfl rfl rfl ?_
        refine tri_seq ?_
        refine tri_block ?_
        refine tri_seq ?_
        rcases Classical.em ((L.getD i2 []).length = i2) with r3 | r3
        · obtain ⟨ad24, A24z, n24z, c24z, ha24, he24, hl24, hc24e⟩ := rw_at (dGik k) k0 i2 (by omega)
          refine tri_reg mixed [.con (pt (p1 0) 1), .con (.slice E0 m0 e0), .con (.int .i64 (i2 : Int)), .con (.pointer (some (ad24.add (((i2 : Int) : Int).toNat * 1)))), .con (.slice A24z n24z c24z), .con (.int .i64 (n24z : Int)), .con (.int .i64 (i2 : Int)), .con (.bool false)] [1, 4, 56] [0] [] ?_ (by decide) ?_ ?_ _ _
          · kernel_rfl
          · exact ⟨pu, ld 0 1 1 ty25, pu, ix (kk := .i64) (n := m0) (c := e0) sl25 ha24 (by omega) (by omega), li ty24 (vs := [.slice A24z n24z c24z]) hc24e rfl, pu, pu, pw (bnf (a := (n24z : Int)) (b := (i2 : Int)) (by omega)), trivial⟩
          rintro p23 x23 u23 hg23 -
          replace h0 := h0.sub (dGik k) hg23.1; replace he24 := he24.sub (dGik k) hg23.1; replace k0 := k0.sub (dRwk (dGik k)) hg23.1
          have hG23 := hG22.trans hg23
          refine next (g' := [(1, pt (p1 0) 0), (4, .int .i64 (i2 : Int)), (56, .bool false)]) (bx' := [⟨p1 0, 27, [.slice A0 n0 c0, .slice E0 m0 e0]⟩]) (rw' := []) (by kernel_rfl) (by kernel_rfl) (by kernel_rfl) ?_
          refine tri_false rfl ?_
          refine tri_skip ?_
          refine pn_blk ?_
          refine next rfl rfl rfl ?_
          refine tri_reg mixed [.con (.int .i64 (i2 : Int)), .con (.int .i64 ((i2 : Int) + 1)), .con (.int .i64 ((i2 : Int) + 1))] [1, 4] [0] [] ?_ (by decide) ?_ ?_ _ _
          · kernel_rfl
          · exact ⟨pu, pw (w64 (n := (i2 : Int) + 1) (by omega)), pu, trivial⟩
          rintro p25 x25 u25 hg25 -
          replace h0 := h0.sub (dGik k) hg25.1; replace k0 := k0.sub (dRwk (dGik k)) hg25.1
          have hG25 := hG23.trans hg25
          exact PN.sub (g' := [(1, pt (p1 0) 0), (4, .int .i64 ((i2 + 1) : Int))]) (bx' := [⟨p1 0, 27, [.slice A0 n0 c0, .slice E0 m0 e0]⟩]) (rw' := []) ⟨rfl, (by first | rfl | (simp)), trivial⟩ rfl rfl (pn_at (m' := m0 - (i2 + 1)) (by omega) ⟨i2 + 1, rfl, (((hg21).trans hg22).trans hg23).trans hg25, by omega, fun j hj => by rcases Nat.lt_or_eq_of_le (Nat.le_of_lt_succ hj) with h | h; exact hg2 j h; exact h ▸ r3, rfl, rfl, rfl⟩)
        · obtain ⟨ad27, A27z, n27z, c27z, ha27, he27, hl27, hc27e⟩ := rw_at (dGik k) k0 i2 (by omega)
          refine tri_reg mixed [.con (pt (p1 0) 1), .con (.slice E0 m0 e0), .con (.int .i64 (i2 : Int)), .con (.pointer (some (ad27.add (((i2 : Int) : Int).toNat * 1)))), .con (.slice A27z n27z c27z), .con (.int .i64 (n27z : Int)), .con (.int .i64 (i2 : Int)), .con (.bool true)] [1, 4, 56] [0] [] ?_ (by decide) ?_ ?_ _ _
          · kernel_rfl
          · exact ⟨pu, ld 0 1 1 ty25, pu, ix (kk := .i64) (n := m0) (c := e0) sl25 ha27 (by omega) (by omega), li ty24 (vs := [.slice A27z n27z c27z]) hc27e rfl, pu, pu, pw (bnt (a := (n27z : Int)) (b := (i2 : Int)) (by omega)), trivial⟩
          rintro p26 x26 u26 hg26 -
          replace h0 := h0.sub (dGik k) hg26.1; replace he27 := he27.sub (dGik k) hg26.1; replace k0 := k0.sub (dRwk (dGik k)) hg26.1
          have hG26 := hG22.trans hg26
          refine next (g' := [(1, pt (p1 0) 0), (4, .int .i64 (i2 : Int)), (56, .bool true)]) (bx' := [⟨p1 0, 27, [.slice A0 n0 c0, .slice E0 m0 e0]⟩]) (rw' := []) (by kernel_rfl) (by kernel_rfl) (by kernel_rfl) ?_
          refine tri_true rfl ?_
          refine tri_seq ?_
          refine tri_reg mixed [.con (.bool false)] [2] [] [] ?_ (by decide) ?_ ?_ _ _
          · kernel_rfl
          · exact ⟨pu, trivial⟩
          rintro p28 x28 u28 hg28 -
          replace h0 := h0.sub (dGik k) hg28.1; replace k0 := k0.sub (dRwk (dGik k)) hg28.1
          have hG28 := hG26.trans hg28
          refine next (g' := [(2, .bool false)]) (bx' := []) (rw' := []) (by kernel_rfl) (by kernel_rfl) (by kernel_rfl) ?_
          exact tri_ret (ret1 rfl (.bool false) rfl hG28 ((not_true hb (fun h => by first | exact r0 h.1 | exact h.1 r0 | exact r1 h.2.1 | exact r2 h.2.2.1 | exact r3 (h.2.2.2 i2 (by omega)).1 | exact r4 (good_pos h (i := i) (by omega))))))
      · replace hc := of_decide_eq_false hc
        refine tri_exit ?_
        repeat refine pn_then (by simp) ?_
        refine pn_ex ?_
        refine next rfl rfl rfl ?_
        refine tri_seq ?_
        refine tri_reg mixed [.con (.bool true)] [2] [] [] ?_ (by decide) ?_ ?_ _ _
        · kernel_rfl
        · exact ⟨pu, trivial⟩
        rintro p29 x29 u29 hg29 -
        replace h0 := h0.sub (dGik k) hg29.1; replace k0 := k0.sub (dRwk (dGik k)) hg29.1
        have hG29 := hG22.trans hg29
        refine next (g' := [(2, .bool true)]) (bx' := []) (rw' := []) (by kernel_rfl) (by kernel_rfl) (by kernel_rfl) ?_
        exact tri_ret (ret1 rfl (.bool true) rfl hG29 ((is_true hb ⟨r0, r1, r2, fun j hj => ⟨hg2 j (by omega), hg1 (j + 1) (by omega)⟩⟩)))

set_option maxRecDepth 100000 in
theorem g_Star_no {u : World} {D : List Int} {L : List (List Int)} {k : Nat} {z : Int} {v0 : Value} (h0 : Gv u v0 D L k) (hk : k ≤ 1099511627776) (hlL : L.length ≤ 1099511627776) (hP : ¬ GoodP D L) : Fn Try.prog 49 #[v0, .int .i64 z] u (Tup2 (Is (.agg #[.bool false, .slice none 0 0, .bool false, .slice none 0 0])) (Is (.int .i64 51))) := by
  obtain ⟨A0, n0, c0, E0, m0, e0, rfl, h0, k0⟩ := h0; have l0 := h0.len; have j0 := k0.len
  have hb : false = true ↔ GoodP D L := ⟨fun h => absurd h (by decide), fun h => absurd h hP⟩
  refine fn_of (args := [_, _]) Try.func49 rfl (by show 2 ≤ 34; decide) ?_
  intro w0 hs0
  have hG0 := Gr.refl w0.heap.size u
  refine tri_seq ?_
  refine tri_reg mixed [.new 27 [.slice A0 n0 c0, .slice E0 m0 e0], .new 33 [.bool false, .slice none 0 0, .bool false, .slice none 0 0], .con (.int .i64 0)] [1, 2, 4] [0, 1] [] ?_ (by decide) ?_ ?_ _ _
  · kernel_rfl
  · exact ⟨al, al, pu, trivial⟩
  rintro p1 x1 u1 hg1 -
  replace h0 := h0.sub (dGik k) hg1.1; replace k0 := k0.sub (dRwk (dGik k)) hg1.1
  have hG1 := hG0.trans hg1
  refine next (g' := [(1, .int .i64 z), (2, pt (p1 0) 0), (4, pt (p1 1) 0)]) (bx' := [⟨p1 0, 27, [.slice A0 n0 c0, .slice E0 m0 e0]⟩, ⟨p1 1, 33, [.bool false, .slice none 0 0, .bool false, .slice none 0 0]⟩]) (rw' := []) (by kernel_rfl) (by kernel_rfl) (by kernel_rfl) ?_
  refine tri_seq ?_
  refine tri_seq ?_
  refine tri_reg mixed [.con (.agg #[.slice A0 n0 c0, .slice E0 m0 e0]), .con (.bool false), .con (.bool true)] [1, 2, 4, 8] [0, 1] [] ?_ (by decide) ?_ ?_ _ _
  · kernel_rfl
  · exact ⟨ld 0 0 2 ty27, cc fun f u w hs => (g_good ⟨_, _, _, _, _, _, rfl, (h0.sub (dGik k) hs.old), (k0.sub (dRwk (dGik k)) hs.old)⟩ (by omega) hlL hb), pu, trivial⟩
  rintro p2 x2 u2 hg2 -
  replace h0 := h0.sub (dGik k) hg2.1; replace k0 := k0.sub (dRwk (dGik k)) hg2.1
  have hG2 := hG1.trans hg2
  refine next (g' := [(1, .int .i64 z), (2, pt (p1 0) 0), (4, pt (p1 1) 0), (8, .bool true)]) (bx' := [⟨p1 0, 27, [.slice A0 n0 c0, .slice E0 m0 e0]⟩, ⟨p1 1, 33, [.bool false, .slice none 0 0, .bool false, .slice none 0 0]⟩]) (rw' := []) (by kernel_rfl) (by kernel_rfl) (by kernel_rfl) ?_
  refine tri_true rfl ?_
  refine tri_seq ?_
  refine tri_reg mixed [.con (.agg #[.bool false, .slice none 0 0, .bool false, .slice none 0 0]), .sto ⟨1, 0, .op 0⟩, .con (.int .i64 51)] [4, 5] [1] [] ?_ (by decide) ?_ ?_ _ _
  · kernel_rfl
  · exact ⟨pu, st 1 0 4 ty33 (fun f u w hs => kn rfl ⟨rfl, rfl⟩), pu, trivial⟩
  rintro p3 x3 u3 hg3 -
  replace h0 := h0.sub (dGik k) hg3.1; replace k0 := k0.sub (dRwk (dGik k)) hg3.1
  have hG3 := hG2.trans hg3
  refine next (g' := [(4, pt (p1 1) 0), (5, .int .i64 51)]) (bx' := [⟨p1 1, 33, [.bool false, .slice none 0 0, .bool false, .slice none 0 0]⟩]) (rw' := []) (by kernel_rfl) (by kernel_rfl) (by kernel_rfl) ?_
  exact tri_ret (ret2 rfl (.agg #[.bool false, .slice none 0 0, .bool false, .slice none 0 0]) (.int .i64 51) (rv_cell 0 (p1 1) 4 33 [.bool false, .slice none 0 0, .bool false, .slice none 0 0] rfl rfl ty33 rfl rfl rfl) rfl hG3 (⟨_, _, rfl, rfl, rfl⟩))

set_option maxRecDepth 100000 in
theorem g_Star_out {u : World} {D : List Int} {L : List (List Int)} {k : Nat} {z : Int} {v0 : Value} (h0 : Gv u v0 D L k) (hk : k ≤ 1099511627776) (hlL : L.length ≤ 1099511627776) (hP : GoodP D L) (hz : z < 0 ∨ (L.length : Int) ≤ z) : Fn Try.prog 49 #[v0, .int .i64 z] u (Tup2 (Is (.agg #[.bool false, .slice none 0 0, .bool false, .slice none 0 0])) (Is (.int .i64 1))) := by
  obtain ⟨A0, n0, c0, E0, m0, e0, rfl, h0, k0⟩ := h0; have l0 := h0.len; have j0 := k0.len
  have hb : true = true ↔ GoodP D L := ⟨fun _ => hP, fun _ => rfl⟩; have hP1 := hP.2.1
  refine fn_of (args := [_, _]) Try.func49 rfl (by show 2 ≤ 34; decide) ?_
  intro w0 hs0
  have hG0 := Gr.refl w0.heap.size u
  refine tri_seq ?_
  refine tri_reg mixed [.new 27 [.slice A0 n0 c0, .slice E0 m0 e0], .new 33 [.bool false, .slice none 0 0, .bool false, .slice none 0 0], .con (.int .i64 0)] [1, 2, 4] [0, 1] [] ?_ (by decide) ?_ ?_ _ _
  · kernel_rfl
  · exact ⟨al, al, pu, trivial⟩
  rintro p1 x1 u1 hg1 -
  replace h0 := h0.sub (dGik k) hg1.1; replace k0 := k0.sub (dRwk (dGik k)) hg1.1
  have hG1 := hG0.trans hg1
  refine next (g' := [(1, .int .i64 z), (2, pt (p1 0) 0), (4, pt (p1 1) 0)]) (bx' := [⟨p1 0, 27, [.slice A0 n0 c0, .slice E0 m0 e0]⟩, ⟨p1 1, 33, [.bool false, .slice none 0 0, .bool false, .slice none 0 0]⟩]) (rw' := []) (by kernel_rfl) (by kernel_rfl) (by kernel_rfl) ?_
  refine tri_seq ?_
  refine tri_seq ?_
  refine tri_reg mixed [.con (.agg #[.slice A0 n0 c0, .slice E0 m0 e0]), .con (.bool true), .con (.bool false)] [1, 2, 4, 8] [0, 1] [] ?_ (by decide) ?_ ?_ _ _
  · kernel_rfl
  · exact ⟨ld 0 0 2 ty27, cc fun f u w hs => (g_good ⟨_, _, _, _, _, _, rfl, (h0.sub (dGik k) hs.old), (k0.sub (dRwk (dGik k)) hs.old)⟩ (by omega) hlL hb), pu, trivial⟩
  rintro p2 x2 u2 hg2 -
  replace h0 := h0.sub (dGik k) hg2.1; replace k0 := k0.sub (dRwk (dGik k)) hg2.1
  have hG2 := hG1.trans hg2
  refine next (g' := [(1, .int .i64 z), (2, pt (p1 0) 0), (4, pt (p1 1) 0), (8, .bool false)]) (bx' := [⟨p1 0, 27, [.slice A0 n0 c0, .slice E0 m0 e0]⟩, ⟨p1 1, 33, [.bool false, .slice none 0 0, .bool false, .slice none 0 0]⟩]) (rw' := []) (by kernel_rfl) (by kernel_rfl) (by kernel_rfl) ?_
  refine tri_false rfl ?_
  refine tri_skip ?_
  refine next rfl rfl rfl ?_
  refine tri_seq ?_
  refine tri_seq ?_
  rcases Classical.em (z < 0) with hz0 | hz0
  · refine tri_reg mixed [.con (.int .i64 z), .con (.bool true), .con (.bool true), .con undef, .con undef, .con undef, .con undef, .con undef, .con (.bool true)] [1, 2, 4, 18] [0, 1] [] ?_ (by decide) ?_ ?_ _ _
    · kernel_rfl
    · exact ⟨pu, pw (bt (p := z < 0) (by omega)), pu, trivial, trivial, trivial, trivial, trivial, pu, trivial⟩
    rintro p3 x3 u3 hg3 -
    replace h0 := h0.sub (dGik k) hg3.1; replace k0 := k0.sub (dRwk (dGik k)) hg3.1
    have hG3 := hG2.trans hg3
    refine next (g' := [(1, .int .i64 z), (2, pt (p1 0) 0), (4, pt (p1 1) 0), (18, .bool true)]) (bx' := [⟨p1 0, 27, [.slice A0 n0 c0, .slice E0 m0 e0]⟩, ⟨p1 1, 33, [.bool false, .slice none 0 0, .bool false, .slice none 0 0]⟩]) (rw' := []) (by kernel_rfl) (by kernel_rfl) (by kernel_rfl) ?_
    refine tri_true rfl ?_
    refine tri_seq ?_
    refine tri_reg mixed [.con (.agg #[.bool false, .slice none 0 0, .bool false, .slice none 0 0]), .sto ⟨1, 0, .op 0⟩, .con (.int .i64 1)] [4, 5] [1] [] ?_ (by decide) ?_ ?_ _ _
    · kernel_rfl
    · exact ⟨pu, st 1 0 4 ty33 (fun f u w hs => kn rfl ⟨rfl, rfl⟩), pu, trivial⟩
    rintro p4 x4 u4 hg4 -
    replace h0 := h0.sub (dGik k) hg4.1; replace k0 := k0.sub (dRwk (dGik k)) hg4.1
    have hG4 := hG3.trans hg4
    refine next (g' := [(4, pt (p1 1) 0), (5, .int .i64 1)]) (bx' := [⟨p1 1, 33, [.bool false, .slice none 0 0, .bool false, .slice none 0 0]⟩]) (rw' := []) (by kernel_rfl) (by kernel_rfl) (by kernel_rfl) ?_
    exact tri_ret (ret2 rfl (.agg #[.bool false, .slice none 0 0, .bool false, .slice none 0 0]) (.int .i64 1) (rv_cell 0 (p1 1) 4 33 [.bool false, .slice none 0 0, .bool false, .slice none 0 0] rfl rfl ty33 rfl rfl rfl) rfl hG4 (⟨_, _, rfl, rfl, rfl⟩))
  · refine tri_reg mixed [.con (.int .i64 z), .con (.bool false), .con (.bool false), .con (.int .i64 z), .con (pt (p1 0) 1), .con (.slice E0 m0 e0), .con (.int .i64 (m0 : Int)), .con (.bool true), .con (.bool true)] [1, 2, 4, 18] [0, 1] [] ?_ (by decide) ?_ ?_ _ _
    · kernel_rfl
    · exact ⟨pu, pw (bf (p := z < 0) (by omega)), pu, pu, pu, ld 0 1 1 ty25, pu, pw (bt (p := (m0 : Int) ≤ z) (by omega)), pu, trivial⟩
    rintro p5 x5 u5 hg5 -
    replace h0 := h0.sub (dGik k) hg5.1; replace k0 := k0.sub (dRwk (dGik k)) hg5.1
    have hG5 := hG2.trans hg5
    refine next (g' := [(1, .int .i64 z), (2, pt (p1 0) 0), (4, pt (p1 1) 0), (18, .bool true)]) (bx' := [⟨p1 0, 27, [.slice A0 n0 c0, .slice E0 m0 e0]⟩, ⟨p1 1, 33, [.bool false, .slice none 0 0, .bool false, .slice none 0 0]⟩]) (rw' := []) (by kernel_rfl) (by kernel_rfl) (by kernel_rfl) ?_
    refine tri_true rfl ?_
    refine tri_seq ?_
    refine tri_reg mixed [.con (.agg #[.bool false, .slice none 0 0, .bool false, .slice none 0 0]), .sto ⟨1, 0, .op 0⟩, .con (.int .i64 1)] [4, 5] [1] [] ?_ (by decide) ?_ ?_ _ _
    · kernel_rfl
    · exact ⟨pu, st 1 0 4 ty33 (fun f u w hs => kn rfl ⟨rfl, rfl⟩), pu, trivial⟩
    rintro p6 x6 u6 hg6 -
    replace h0 := h0.sub (dGik k) hg6.1; replace k0 := k0.sub (dRwk (dGik k)) hg6.1
    have hG6 := hG5.trans hg6
    refine next (g' := [(4, pt (p1 1) 0), (5, .int .i64 1)]) (bx' := [⟨p1 1, 33, [.bool false, .slice none 0 0, .bool false, .slice none 0 0]⟩]) (rw' := []) (by kernel_rfl) (by kernel_rfl) (by kernel_rfl) ?_
    exact tri_ret (ret2 rfl (.agg #[.bool false, .slice none 0 0, .bool false, .slice none 0 0]) (.int .i64 1) (rv_cell 0 (p1 1) 4 33 [.bool false, .slice none 0 0, .bool false, .slice none 0 0] rfl rfl ty33 rfl rfl rfl) rfl hG6 (⟨_, _, rfl, rfl, rfl⟩))

set_option maxRecDepth 100000 in
theorem g_Star {u : World} {D : List Int} {L : List (List Int)} {k : Nat} {i : Nat} {v0 : Value} (h0 : Gv u v0 D L k) (hk : k ≤ 1099511627776) (hlL : L.length ≤ 1099511627776) (hP : GoodP D L) (hi : i < L.length) : Fn Try.prog 49 #[v0, .int .i64 (i : Int)] u (Tup2 (fun u r => CQv u r (((D.getD (i + 1) 0 : Int) : Rat) / ((D.getD i 0 : Int) : Rat))) (Is (.int .i64 0))) := by
  obtain ⟨A0, n0, c0, E0, m0, e0, rfl, h0, k0⟩ := h0; have l0 := h0.len; have j0 := k0.len
  have hb : true = true ↔ GoodP D L := ⟨fun _ => hP, fun _ => rfl⟩; have hP1 := hP.2.1; have hp0 := good_pos hP (i := i) (by omega)
  refine fn_of (args := [_, _]) Try.func49 rfl (by show 2 ≤ 34; decide) ?_
  intro w0 hs0
  have hG0 := Gr.refl w0.heap.size u
  refine tri_seq ?_
  refine tri_reg mixed [.new 27 [.slice A0 n0 c0, .slice E0 m0 e0], .new 33 [.bool false, .slice none 0 0, .bool false, .slice none 0 0], .con (.int .i64 0)] [1, 2, 4] [0, 1] [] ?_ (by decide) ?_ ?_ _ _
  · kernel_rfl
  · exact ⟨al, al, pu, trivial⟩
  rintro p1 x1 u1 hg1 -
  replace h0 := h0.sub (dGik k) hg1.1; replace k0 := k0.sub (dRwk (dGik k)) hg1.1
  have hG1 := hG0.trans hg1
  refine next (g' := [(1, .int .i64 (i : Int)), (2, pt (p1 0) 0), (4, pt (p1 1) 0)]) (bx' := [⟨p1 0, 27, [.slice A0 n0 c0, .slice E0 m0 e0]⟩, ⟨p1 1, 33, [.bool false, .slice none 0 0, .bool false, .slice none 0 0]⟩]) (rw' := []) (by kernel_rfl) (by kernel_rfl) (by kernel_rfl) ?_
  refine tri_seq ?_
  refine tri_seq ?_
  refine tri_reg mixed [.con (.agg #[.slice A0 n0 c0, .slice E0 m0 e0]), .con (.bool true), .con (.bool false)] [1, 2, 4, 8] [0, 1] [] ?_ (by decide) ?_ ?_ _ _
  · kernel_rfl
  · exact ⟨ld 0 0 2 ty27, cc fun f u w hs => (g_good ⟨_, _, _, _, _, _, rfl, (h0.sub (dGik k) hs.old), (k0.sub (dRwk (dGik k)) hs.old)⟩ (by omega) hlL hb), pu, trivial⟩
  rintro p2 x2 u2 hg2 -
  replace h0 := h0.sub (dGik k) hg2.1; replace k0 := k0.sub (dRwk (dGik k)) hg2.1
  have hG2 := hG1.trans hg2
  refine next (g' := [(1, .int .i64 (i : Int)), (2, pt (p1 0) 0), (4, pt (p1 1) 0), (8, .bool false)]) (bx' := [⟨p1 0, 27, [.slice A0 n0 c0, .slice E0 m0 e0]⟩, ⟨p1 1, 33, [.bool false, .slice none 0 0, .bool false, .slice none 0 0]⟩]) (rw' := []) (by kernel_rfl) (by kernel_rfl) (by kernel_rfl) ?_
  refine tri_false rfl ?_
  refine tri_skip ?_
  refine next rfl rfl rfl ?_
  refine tri_seq ?_
  refine tri_seq ?_
  refine tri_reg mixed [.con (.int .i64 (i : Int)), .con (.bool false), .con (.bool false), .con (.int .i64 (i : Int)), .con (pt (p1 0) 1), .con (.slice E0 m0 e0), .con (.int .i64 (m0 : Int)), .con (.bool false), .con (.bool false)] [1, 2, 4, 18] [0, 1] [] ?_ (by decide) ?_ ?_ _ _
  · kernel_rfl
  · exact ⟨pu, pw (bf (p := (i : Int) < 0) (by omega)), pu, pu, pu, ld 0 1 1 ty25, pu, pw (bf (p := (m0 : Int) ≤ (i : Int)) (by omega)), pu, trivial⟩
  rintro p3 x3 u3 hg3 -
  replace h0 := h0.sub (dGik k) hg3.1; replace k0 := k0.sub (dRwk (dGik k)) hg3.1
  have hG3 := hG2.trans hg3
  refine next (g' := [(1, .int .i64 (i : Int)), (2, pt (p1 0) 0), (4, pt (p1 1) 0), (18, .bool false)]) (bx' := [⟨p1 0, 27, [.slice A0 n0 c0, .slice E0 m0 e0]⟩, ⟨p1 1, 33, [.bool false, .slice none 0 0, .bool false, .slice none 0 0]⟩]) (rw' := []) (by kernel_rfl) (by kernel_rfl) (by kernel_rfl) ?_
  refine tri_false rfl ?_
  refine tri_skip ?_
  refine next rfl rfl rfl ?_
  refine tri_seq ?_
  obtain ⟨ad5, s5z, A5z, n5z, c5z, ha5, he5, hc5e⟩ := gi_at h0 (i + 1) (by omega)
  obtain ⟨ad6, s6z, A6z, n6z, c6z, ha6, he6, hc6e⟩ := gi_at h0 i (by omega)
  refine tri_reg mixed [.con (pt (p1 0) 0), .con (.slice A0 n0 c0), .con (.int .i64 (i : Int)), .con (.int .i64 ((i + 1 : Nat) : Int)), .con (.pointer (some (ad5.add ((((i + 1 : Nat) : Int) : Int).toNat * 2)))), .con (.agg #[.bool s5z, .slice A5z n5z c5z]), .con (pt (p1 0) 0), .con (.slice A0 n0 c0), .con (.int .i64 (i : Int)), .con (.pointer (some (ad6.add (((i : Int) : Int).toNat * 2)))), .con (.agg #[.bool s6z, .slice A6z n6z c6z]), .opq (Tup2 (fun u r => CQv u r ((((D.getD (i + 1) 0) : Int) : Rat) / (((D.getD i 0) : Int) : Rat))) (Is (.int .i64 0))), .opq (fun u r => CQv u r ((((D.getD (i + 1) 0) : Int) : Rat) / (((D.getD i 0) : Int) : Rat))), .con (.int .i64 0), .sto ⟨1, 0, .op 12⟩, .con (.int .i64 0)] [4, 5] [1] [] ?_ (by decide) ?_ ?_ _ _
  · kernel_rfl
  · exact ⟨pu, ld 0 0 1 ty24, pu, pw (w64 (n := (i : Int) + 1) (by omega)), ix (kk := .i64) (n := n0) (c := c0) sl24 ha5 (by omega) (by omega), li ty31 (vs := [.bool s5z, .slice A5z n5z c5z]) hc5e rfl, pu, ld 0 0 1 ty24, pu, ix (kk := .i64) (n := n0) (c := c0) sl24 ha6 (by omega) (by omega), li ty31 (vs := [.bool s6z, .slice A6z n6z c6z]) hc6e rfl, ca (Tup2.mono (CQv.m _) (Is.mono _)) fun f u w hs => (r_Make ⟨_, _, _, _, rfl, he5.sub hs.old⟩ ⟨_, _, _, _, rfl, he6.sub hs.old⟩ (by omega) (by omega) (by omega)), ex2a 11 (CQv.m _), ex2c 11, st 1 0 4 ty33 (fun f u w hs => kn rfl (CQv.flat (hs.opq 12 _ rfl rfl))), pu, trivial⟩
  rintro p4 x4 u4 hg4 ⟨q11, q12, -⟩
  replace h0 := h0.sub (dGik k) hg4.1; replace he5 := he5.sub hg4.1; replace he6 := he6.sub hg4.1; replace k0 := k0.sub (dRwk (dGik k)) hg4.1
  have hG4 := hG3.trans hg4
  obtain ⟨s4_12, A4_12, n4_12, c4_12, t4_12, D4_12, m4_12, d4_12, e4_12, h4_12, k4_12⟩ := q12; rw [fun_upd (i := 12) e4_12]
  refine next (g' := [(4, pt (p1 1) 0), (5, .int .i64 0)]) (bx' := [⟨p1 1, 33, [.bool s4_12, .slice A4_12 n4_12 c4_12, .bool t4_12, .slice D4_12 m4_12 d4_12]⟩]) (rw' := []) (by kernel_rfl) (by kernel_rfl) (by kernel_rfl) ?_
  exact tri_ret (ret2 rfl (.agg #[.bool s4_12, .slice A4_12 n4_12 c4_12, .bool t4_12, .slice D4_12 m4_12 d4_12]) (.int .i64 0) (rv_cell 0 (p1 1) 4 33 [.bool s4_12, .slice A4_12 n4_12 c4_12, .bool t4_12, .slice D4_12 m4_12 d4_12] rfl rfl ty33 rfl rfl rfl) rfl hG4 (⟨_, _, rfl, ⟨_, _, _, _, _, _, _, _, rfl, h4_12, k4_12⟩, rfl⟩))

set_option maxRecDepth 100000 in
theorem r05_Star {u : World} {D : List Int} {L : List (List Int)} {k : Nat} {i : Nat} {v0 : Value} (h0 : Gv u v0 D L k) (hk : k ≤ 1099511627776) (hlL : L.length ≤ 1099511627776) (hP : GoodP D L) (hi : i < L.length) : Fn Try.prog 52 #[v0, .int .i64 (i : Int)] u (fun u r => CQv u r (((D.getD (i + 1) 0 : Int) : Rat) / ((D.getD i 0 : Int) : Rat))) := by
  obtain ⟨A0, n0, c0, E0, m0, e0, rfl, h0, k0⟩ := h0; have l0 := h0.len; have j0 := k0.len
  have hP1 := hP.2.1; have hp0 := good_pos hP (i := i) (by omega)
  refine fn_of (args := [_, _]) Try.func52 rfl (by show 2 ≤ 17; decide) ?_
  intro w0 hs0
  have hG0 := Gr.refl w0.heap.size u
  refine tri_seq ?_
  refine tri_reg mixed [.new 27 [.slice A0 n0 c0, .slice E0 m0 e0], .new 33 [.bool false, .slice none 0 0, .bool false, .slice none 0 0]] [1, 2, 4] [0, 1] [] ?_ (by decide) ?_ ?_ _ _
  · kernel_rfl
  · exact ⟨al, al, trivial⟩
  rintro p1 x1 u1 hg1 -
  replace h0 := h0.sub (dGik k) hg1.1; replace k0 := k0.sub (dRwk (dGik k)) hg1.1
  have hG1 := hG0.trans hg1
  refine next (g' := [(1, .int .i64 (i : Int)), (2, pt (p1 0) 0), (4, pt (p1 1) 0)]) (bx' := [⟨p1 0, 27, [.slice A0 n0 c0, .slice E0 m0 e0]⟩, ⟨p1 1, 33, [.bool false, .slice none 0 0, .bool false, .slice none 0 0]⟩]) (rw' := []) (by kernel_rfl) (by kernel_rfl) (by kernel_rfl) ?_
  refine tri_seq ?_
  obtain ⟨ad3, s3z, A3z, n3z, c3z, ha3, he3, hc3e⟩ := gi_at h0 (i + 1) (by omega)
  obtain ⟨ad4, s4z, A4z, n4z, c4z, ha4, he4, hc4e⟩ := gi_at h0 i (by omega)
  refine tri_reg mixed [.con (pt (p1 0) 0), .con (.slice A0 n0 c0), .con (.int .i64 (i : Int)), .con (.int .i64 ((i + 1 : Nat) : Int)), .con (.pointer (some (ad3.add ((((i + 1 : Nat) : Int) : Int).toNat * 2)))), .con (.agg #[.bool s3z, .slice A3z n3z c3z]), .con (pt (p1 0) 0), .con (.slice A0 n0 c0), .con (.int .i64 (i : Int)), .con (.pointer (some (ad4.add (((i : Int) : Int).toNat * 2)))), .con (.agg #[.bool s4z, .slice A4z n4z c4z]), .opq (fun u r => CQv u r ((((D.getD (i + 1) 0) : Int) : Rat) / (((D.getD i 0) : Int) : Rat))), .sto ⟨1, 0, .op 11⟩] [4] [1] [] ?_ (by decide) ?_ ?_ _ _
  · kernel_rfl
  · exact ⟨pu, ld 0 0 1 ty24, pu, pw (w64 (n := (i : Int) + 1) (by omega)), ix (kk := .i64) (n := n0) (c := c0) sl24 ha3 (by omega) (by omega), li ty31 (vs := [.bool s3z, .slice A3z n3z c3z]) hc3e rfl, pu, ld 0 0 1 ty24, pu, ix (kk := .i64) (n := n0) (c := c0) sl24 ha4 (by omega) (by omega), li ty31 (vs := [.bool s4z, .slice A4z n4z c4z]) hc4e rfl, ca (CQv.m _) fun f u w hs => (r03_Make ⟨_, _, _, _, rfl, he3.sub hs.old⟩ ⟨_, _, _, _, rfl, he4.sub hs.old⟩ (by omega) (by omega) (by omega)), st 1 0 4 ty33 (fun f u w hs => kn rfl (CQv.flat (hs.opq 11 _ rfl rfl))), trivial⟩
  rintro p2 x2 u2 hg2 ⟨q11, -⟩
  replace h0 := h0.sub (dGik k) hg2.1; replace he3 := he3.sub hg2.1; replace he4 := he4.sub hg2.1; replace k0 := k0.sub (dRwk (dGik k)) hg2.1
  have hG2 := hG1.trans hg2
  obtain ⟨s2_11, A2_11, n2_11, c2_11, t2_11, D2_11, m2_11, d2_11, e2_11, h2_11, k2_11⟩ := q11; rw [fun_upd (i := 11) e2_11]
  refine next (g' := [(4, pt (p1 1) 0)]) (bx' := [⟨p1 1, 33, [.bool s2_11, .slice A2_11 n2_11 c2_11, .bool t2_11, .slice D2_11 m2_11 d2_11]⟩]) (rw' := []) (by kernel_rfl) (by kernel_rfl) (by kernel_rfl) ?_
  exact tri_ret (ret1 rfl (.agg #[.bool s2_11, .slice A2_11 n2_11 c2_11, .bool t2_11, .slice D2_11 m2_11 d2_11]) (rv_cell 0 (p1 1) 4 33 [.bool s2_11, .slice A2_11 n2_11 c2_11, .bool t2_11, .slice D2_11 m2_11 d2_11] rfl rfl ty33 rfl rfl rfl) hG2 (⟨_, _, _, _, _, _, _, _, rfl, h2_11, k2_11⟩))

set_option maxRecDepth 100000 in
theorem g_Mu_no {u : World} {D : List Int} {L : List (List Int)} {k : Nat} {z y : Int} {v0 : Value} (h0 : Gv u v0 D L k) (hk : k ≤ 1099511627776) (hlL : L.length ≤ 1099511627776) (hP : ¬ GoodP D L) : Fn Try.prog 48 #[v0, .int .i64 z, .int .i64 y] u (Tup2 (Is (.agg #[.bool false, .slice none 0 0, .bool false, .slice none 0 0])) (Is (.int .i64 51))) := by
  obtain ⟨A0, n0, c0, E0, m0, e0, rfl, h0, k0⟩ := h0; have l0 := h0.len; have j0 := k0.len
  have hb : false = true ↔ GoodP D L := ⟨fun h => absurd h (by decide), fun h => absurd h hP⟩
  refine fn_of (args := [_, _, _]) Try.func48 rfl (by show 3 ≤ 56; decide) ?_
  intro w0 hs0
  have hG0 := Gr.refl w0.heap.size u
  refine tri_seq ?_
  refine tri_reg mixed [.new 27 [.slice A0 n0 c0, .slice E0 m0 e0], .new 33 [.bool false, .slice none 0 0, .bool false, .slice none 0 0], .con (.int .i64 0)] [1, 2, 3, 6] [0, 1] [] ?_ (by decide) ?_ ?_ _ _
  · kernel_rfl
  · exact ⟨al, al, pu, trivial⟩
  rintro p1 x1 u1 hg1 -
  replace h0 := h0.sub (dGik k) hg1.1; replace k0 := k0.sub (dRwk (dGik k)) hg1.1
  have hG1 := hG0.trans hg1
  refine next (g' := [(1, .int .i64 z), (2, .int .i64 y), (3, pt (p1 0) 0), (6, pt (p1 1) 0)]) (bx' := [⟨p1 0, 27, [.slice A0 n0 c0, .slice E0 m0 e0]⟩, ⟨p1 1, 33, [.bool false, .slice none 0 0, .bool false, .slice none 0 0]⟩]) (rw' := []) (by kernel_rfl) (by kernel_rfl) (by kernel_rfl) ?_
  refine tri_seq ?_
  refine tri_block ?_
  refine tri_seq ?_
  refine tri_reg mixed [.con (.agg #[.slice A0 n0 c0, .slice E0 m0 e0]), .con (.bool false), .con (.bool true), .con (.bool true)] [1, 2, 3, 6, 8] [0, 1] [] ?_ (by decide) ?_ ?_ _ _
  · kernel_rfl
  · exact ⟨ld 0 0 2 ty27, cc fun f u w hs => (g_good ⟨_, _, _, _, _, _, rfl, (h0.sub (dGik k) hs.old), (k0.sub (dRwk (dGik k)) hs.old)⟩ (by omega) hlL hb), pu, pu, trivial⟩
  rintro p2 x2 u2 hg2 -
  replace h0 := h0.sub (dGik k) hg2.1; replace k0 := k0.sub (dRwk (dGik k)) hg2.1
  have hG2 := hG1.trans hg2
  refine next (g' := [(1, .int .i64 z), (2, .int .i64 y), (3, pt (p1 0) 0), (6, pt (p1 1) 0), (8, .bool true)]) (bx' := [⟨p1 0, 27, [.slice A0 n0 c0, .slice E0 m0 e0]⟩, ⟨p1 1, 33, [.bool false, .slice none 0 0, .bool false, .slice none 0 0]⟩]) (rw' := []) (by kernel_rfl) (by kernel_rfl) (by kernel_rfl) ?_
  refine tri_true rfl ?_
  refine tri_seq ?_
  refine tri_reg mixed [.con (.agg #[.bool false, .slice none 0 0, .bool false, .slice none 0 0]), .sto ⟨1, 0, .op 0⟩, .con (.int .i64 51)] [6, 7] [1] [] ?_ (by decide) ?_ ?_ _ _
  · kernel_rfl
  · exact ⟨pu, st 1 0 4 ty33 (fun f u w hs => kn rfl ⟨rfl, rfl⟩), pu, trivial⟩
  rintro p3 x3 u3 hg3 -
  replace h0 := h0.sub (dGik k) hg3.1; replace k0 := k0.sub (dRwk (dGik k)) hg3.1
  have hG3 := hG2.trans hg3
  refine next (g' := [(6, pt (p1 1) 0), (7, .int .i64 51)]) (bx' := [⟨p1 1, 33, [.bool false, .slice none 0 0, .bool false, .slice none 0 0]⟩]) (rw' := []) (by kernel_rfl) (by kernel_rfl) (by kernel_rfl) ?_
  exact tri_ret (ret2 rfl (.agg #[.bool false, .slice none 0 0, .bool false, .slice none 0 0]) (.int .i64 51) (rv_cell 0 (p1 1) 4 33 [.bool false, .slice none 0 0, .bool false, .slice none 0 0] rfl rfl ty33 rfl rfl rfl) rfl hG3 (⟨_, _, rfl, rfl, rfl⟩))

set_option maxRecDepth 100000 in
theorem g_Mu_out {u : World} {D : List Int} {L : List (List Int)} {k : Nat} {z y : Int} {v0 : Value} (h0 : Gv u v0 D L k) (hk : k ≤ 1099511627776) (hlL : L.length ≤ 1099511627776) (hP : GoodP D L) (hz : ¬ (0 ≤ z ∧ z < (L.length : Int) ∧ 0 ≤ y ∧ y ≤ z)) : Fn Try.prog 48 #[v0, .int .i64 z, .int .i64 y] u (Tup2 (Is (.agg #[.bool false, .slice none 0 0, .bool false, .slice none 0 0])) (Is (.int .i64 1))) := by
  obtain ⟨A0, n0, c0, E0, m0, e0, rfl, h0, k0⟩ := h0; have l0 := h0.len; have j0 := k0.len
  have hb : true = true ↔ GoodP D L := ⟨fun _ => hP, fun _ => rfl⟩; have hP1 := hP.2.1
  refine fn_of (args := [_, _, _]) Try.func48 rfl (by show 3 ≤ 56; decide) ?_
  intro w0 hs0
  have hG0 := Gr.refl w0.heap.size u
  refine tri_seq ?_
  refine tri_reg mixed [.new 27 [.slice A0 n0 c0, .slice E0 m0 e0], .new 33 [.bool false, .slice none 0 0, .bool false, .slice none 0 0], .con (.int .i64 0)] [1, 2, 3, 6] [0, 1] [] ?_ (by decide) ?_ ?_ _ _
  · kernel_rfl
  · exact ⟨al, al, pu, trivial⟩
  rintro p1 x1 u1 hg1 -
  replace h0 := h0.sub (dGik k) hg1.1; replace k0 := k0.sub (dRwk (dGik k)) hg1.1
  have hG1 := hG0.trans hg1
  refine next (g' := [(1, .int .i64 z), (2, .int .i64 y), (3, pt (p1 0) 0), (6, pt (p1 1) 0)]) (bx' := [⟨p1 0, 27, [.slice A0 n0 c0, .slice E0 m0 e0]⟩, ⟨p1 1, 33, [.bool false, .slice none 0 0, .bool false, .slice none 0 0]⟩]) (rw' := []) (by kernel_rfl) (by kernel_rfl) (by kernel_rfl) ?_
  refine tri_seq ?_
  refine tri_block ?_
  refine tri_seq ?_
  refine tri_reg mixed [.con (.agg #[.slice A0 n0 c0, .slice E0 m0 e0]), .con (.bool true), .con (.bool false), .con (.bool false)] [1, 2, 3, 6, 8] [0, 1] [] ?_ (by decide) ?_ ?_ _ _
  · kernel_rfl
  · exact ⟨ld 0 0 2 ty27, cc fun f u w hs => (g_good ⟨_, _, _, _, _, _, rfl, (h0.sub (dGik k) hs.old), (k0.sub (dRwk (dGik k)) hs.old)⟩ (by omega) hlL hb), pu, pu, trivial⟩
  rintro p2 x2 u2 hg2 -
  replace h0 := h0.sub (dGik k) hg2.1; replace k0 := k0.sub (dRwk (dGik k)) hg2.1
  have hG2 := hG1.trans hg2
  refine next (g' := [(1, .int .i64 z), (2, .int .i64 y), (3, pt (p1 0) 0), (6, pt (p1 1) 0), (8, .bool false)]) (bx' := [⟨p1 0, 27, [.slice A0 n0 c0, .slice E0 m0 e0]⟩, ⟨p1 1, 33, [.bool false, .slice none 0 0, .bool false, .slice none 0 0]⟩]) (rw' := []) (by kernel_rfl) (by kernel_rfl) (by kernel_rfl) ?_
  refine tri_false rfl ?_
  refine tri_seq ?_
  rcases four (z < 0) (¬ (L.length : Int) ≤ z) (¬ y < 0) with q0 | ⟨q0, q1⟩ | ⟨q0, q1, q2⟩ | ⟨q0, q1, q2⟩
  · refine tri_reg mixed [.con (.int .i64 z), .con (.bool true), .con (.bool true), .con undef, .con undef, .con undef, .con undef, .con undef, .con (.bool true), .con (.bool true), .con undef, .con undef, .con (.bool true), .con (.bool true), .con undef, .con undef, .con undef, .con (.bool true), .con (.bool true)] [1, 2, 3, 6, 13] [0, 1] [] ?_ (by decide) ?_ ?_ _ _
    · kernel_rfl
    · exact ⟨pu, pw (bt (p := z < 0) (by omega)), pu, trivial, trivial, trivial, trivial, trivial, pu, pu, trivial, trivial, pu, pu, trivial, trivial, trivial, pu, pu, trivial⟩
    rintro p3 x3 u3 hg3 -
    replace h0 := h0.sub (dGik k) hg3.1; replace k0 := k0.sub (dRwk (dGik k)) hg3.1
    have hG3 := hG2.trans hg3
    refine next (g' := [(1, .int .i64 z), (2, .int .i64 y), (3, pt (p1 0) 0), (6, pt (p1 1) 0), (13, .bool true)]) (bx' := [⟨p1 0, 27, [.slice A0 n0 c0, .slice E0 m0 e0]⟩, ⟨p1 1, 33, [.bool false, .slice none 0 0, .bool false, .slice none 0 0]⟩]) (rw' := []) (by kernel_rfl) (by kernel_rfl) (by kernel_rfl) ?_
    refine tri_true rfl ?_
    refine tri_seq ?_
    refine tri_reg mixed [.con (.agg #[.bool false, .slice none 0 0, .bool false, .slice none 0 0]), .sto ⟨1, 0, .op 0⟩, .con (.int .i64 1)] [6, 7] [1] [] ?_ (by decide) ?_ ?_ _ _
    · kernel_rfl
    · exact ⟨pu, st 1 0 4 ty33 (fun f u w hs => kn rfl ⟨rfl, rfl⟩), pu, trivial⟩
    rintro p4 x4 u4 hg4 -
    replace h0 := h0.sub (dGik k) hg4.1; replace k0 := k0.sub (dRwk (dGik k)) hg4.1
    have hG4 := hG3.trans hg4
    refine next (g' := [(6, pt (p1 1) 0), (7, .int .i64 1)]) (bx' := [⟨p1 1, 33, [.bool false, .slice none 0 0, .bool false, .slice none 0 0]⟩]) (rw' := []) (by kernel_rfl) (by kernel_rfl) (by kernel_rfl) ?_
    exact tri_ret (ret2 rfl (.agg #[.bool false, .slice none 0 0, .bool false, .slice none 0 0]) (.int .i64 1) (rv_cell 0 (p1 1) 4 33 [.bool false, .slice none 0 0, .bool false, .slice none 0 0] rfl rfl ty33 rfl rfl rfl) rfl hG4 (⟨_, _, rfl, rfl, rfl⟩))
  · refine tri_reg mixed [.con (.int .i64 z), .con (.bool false), .con (.bool false), .con (.int .i64 z), .con (pt (p1 0) 1), .con (.slice E0 m0 e0), .con (.int .i64 (m0 : Int)), .con (.bool true), .con (.bool true), .con (.bool true), .con undef, .con undef, .con (.bool true), .con (.bool true), .con undef, .con undef, .con undef, .con (.bool true), .con (.bool true)] [1, 2, 3, 6, 13] [0, 1] [] ?_ (by decide) ?_ ?_ _ _
    · kernel_rfl
    · exact ⟨pu, pw (bf (p := z < 0) (by omega)), pu, pu, pu, ld 0 1 1 ty25, pu, pw (bt (p := (m0 : Int) ≤ z) (by omega)), pu, pu, trivial, trivial, pu, pu, trivial, trivial, trivial, pu, pu, trivial⟩
    rintro p5 x5 u5 hg5 -
    replace h0 := h0.sub (dGik k) hg5.1; replace k0 := k0.sub (dRwk (dGik k)) hg5.1
    have hG5 := hG2.trans hg5
    refine next (g' := [(1, .int .i64 z), (2, .int .i64 y), (3, pt (p1 0) 0), (6, pt (p1 1) 0), (13, .bool true)]) (bx' := [⟨p1 0, 27, [.slice A0 n0 c0, .slice E0 m0 e0]⟩, ⟨p1 1, 33, [.bool false, .slice none 0 0, .bool false, .slice none 0 0]⟩]) (rw' := []) (by kernel_rfl) (by kernel_rfl) (by kernel_rfl) ?_
    refine tri_true rfl ?_
    refine tri_seq ?_
    refine tri_reg mixed [.con (.agg #[.bool false, .slice none 0 0, .bool false, .slice none 0 0]), .sto ⟨1, 0, .op 0⟩, .con (.int .i64 1)] [6, 7] [1] [] ?_ (by decide) ?_ ?_ _ _
    · kernel_rfl
    · exact ⟨pu, st 1 0 4 ty33 (fun f u w hs => kn rfl ⟨rfl, rfl⟩), pu, trivial⟩
    rintro p6 x6 u6 hg6 -
    replace h0 := h0.sub (dGik k) hg6.1; replace k0 := k0.sub (dRwk (dGik k)) hg6.1
    have hG6 := hG5.trans hg6
    refine next (g' := [(6, pt (p1 1) 0), (7, .int .i64 1)]) (bx' := [⟨p1 1, 33, [.bool false, .slice none 0 0, .bool false, .slice none 0 0]⟩]) (rw' := []) (by kernel_rfl) (by kernel_rfl) (by kernel_rfl) ?_
    exact tri_ret (ret2 rfl (.agg #[.bool false, .slice none 0 0, .bool false, .slice none 0 0]) (.int .i64 1) (rv_cell 0 (p1 1) 4 33 [.bool false, .slice none 0 0, .bool false, .slice none 0 0] rfl rfl ty33 rfl rfl rfl) rfl hG6 (⟨_, _, rfl, rfl, rfl⟩))
  · refine tri_reg mixed [.con (.int .i64 z), .con (.bool false), .con (.bool false), .con (.int .i64 z), .con (pt (p1 0) 1), .con (.slice E0 m0 e0), .con (.int .i64 (m0 : Int)), .con (.bool false), .con (.bool false), .con (.bool false), .con (.int .i64 y), .con (.bool true), .con (.bool true), .con (.bool true), .con undef, .con undef, .con undef, .con (.bool true), .con (.bool true)] [1, 2, 3, 6, 13] [0, 1] [] ?_ (by decide) ?_ ?_ _ _
    · kernel_rfl
    · exact ⟨pu, pw (bf (p := z < 0) (by omega)), pu, pu, pu, ld 0 1 1 ty25, pu, pw (bf (p := (m0 : Int) ≤ z) (by omega)), pu, pu, pu, pw (bt (p := y < 0) (by omega)), pu, pu, trivial, trivial, trivial, pu, pu, trivial⟩
    rintro p7 x7 u7 hg7 -
    replace h0 := h0.sub (dGik k) hg7.1; replace k0 := k0.sub (dRwk (dGik k)) hg7.1
    have hG7 := hG2.trans hg7
    refine next (g' := [(1, .int .i64 z), (2, .int .i64 y), (3, pt (p1 0) 0), (6, pt (p1 1) 0), (13, .bool true)]) (bx' := [⟨p1 0, 27, [.slice A0 n0 c0, .slice E0 m0 e0]⟩, ⟨p1 1, 33, [.bool false, .slice none 0 0, .bool false, .slice none 0 0]⟩]) (rw' := []) (by kernel_rfl) (by kernel_rfl) (by kernel_rfl) ?_
    refine tri_true rfl ?_
    refine tri_seq ?_
    refine tri_reg mixed [.con (.agg #[.bool false, .slice none 0 0, .bool false, .slice none 0 0]), .sto ⟨1, 0, .op 0⟩, .con (.int .i64 1)] [6, 7] [1] [] ?_ (by decide) ?_ ?_ _ _
    · kernel_rfl
    · exact ⟨pu, st 1 0 4 ty33 (fun f u w hs => kn rfl ⟨rfl, rfl⟩), pu, trivial⟩
    rintro p8 x8 u8 hg8 -
    replace h0 := h0.sub (dGik k) hg8.1; replace k0 := k0.sub (dRwk (dGik k)) hg8.1
    have hG8 := hG7.trans hg8
    refine next (g' := [(6, pt (p1 1) 0), (7, .int .i64 1)]) (bx' := [⟨p1 1, 33, [.bool false, .slice none 0 0, .bool false, .slice none 0 0]⟩]) (rw' := []) (by kernel_rfl) (by kernel_rfl) (by kernel_rfl) ?_
    exact tri_ret (ret2 rfl (.agg #[.bool false, .slice none 0 0, .bool false, .slice none 0 0]) (.int .i64 1) (rv_cell 0 (p1 1) 4 33 [.bool false, .slice none 0 0, .bool false, .slice none 0 0] rfl rfl ty33 rfl rfl rfl) rfl hG8 (⟨_, _, rfl, rfl, rfl⟩))
  · refine tri_reg mixed [.con (.int .i64 z), .con (.bool false), .con (.bool false), .con (.int .i64 z), .con (pt (p1 0) 1), .con (.slice E0 m0 e0), .con (.int .i64 (m0 : Int)), .con (.bool false), .con (.bool false), .con (.bool false), .con (.int .i64 y), .con (.bool false), .con (.bool false), .con (.bool false), .con (.int .i64 y), .con (.int .i64 z), .con (.bool true), .con (.bool true), .con (.bool true)] [1, 2, 3, 6, 13] [0, 1] [] ?_ (by decide) ?_ ?_ _ _
    · kernel_rfl
    · exact ⟨pu, pw (bf (p := z < 0) (by omega)), pu, pu, pu, ld 0 1 1 ty25, pu, pw (bf (p := (m0 : Int) ≤ z) (by omega)), pu, pu, pu, pw (bf (p := y < 0) (by omega)), pu, pu, pu, pu, pw (bt (p := z < y) (by omega)), pu, pu, trivial⟩
    rintro p9 x9 u9 hg9 -
    replace h0 := h0.sub (dGik k) hg9.1; replace k0 := k0.sub (dRwk (dGik k)) hg9.1
    have hG9 := hG2.trans hg9
    refine next (g' := [(1, .int .i64 z), (2, .int .i64 y), (3, pt (p1 0) 0), (6, pt (p1 1) 0), (13, .bool true)]) (bx' := [⟨p1 0, 27, [.slice A0 n0 c0, .slice E0 m0 e0]⟩, ⟨p1 1, 33, [.bool false, .slice none 0 0, .bool false, .slice none 0 0]⟩]) (rw' := []) (by kernel_rfl) (by kernel_rfl) (by kernel_rfl) ?_
    refine tri_true rfl ?_
    refine tri_seq ?_
    refine tri_reg mixed [.con (.agg #[.bool false, .slice none 0 0, .bool false, .slice none 0 0]), .sto ⟨1, 0, .op 0⟩, .con (.int .i64 1)] [6, 7] [1] [] ?_ (by decide) ?_ ?_ _ _
    · kernel_rfl
    · exact ⟨pu, st 1 0 4 ty33 (fun f u w hs => kn rfl ⟨rfl, rfl⟩), pu, trivial⟩
    rintro p10 x10 u10 hg10 -
    replace h0 := h0.sub (dGik k) hg10.1; replace k0 := k0.sub (dRwk (dGik k)) hg10.1
    have hG10 := hG9.trans hg10
    refine next (g' := [(6, pt (p1 1) 0), (7, .int .i64 1)]) (bx' := [⟨p1 1, 33, [.bool false, .slice none 0 0, .bool false, .slice none 0 0]⟩]) (rw' := []) (by kernel_rfl) (by kernel_rfl) (by kernel_rfl) ?_
    exact tri_ret (ret2 rfl (.agg #[.bool false, .slice none 0 0, .bool false, .slice none 0 0]) (.int .i64 1) (rv_cell 0 (p1 1) 4 33 [.bool false, .slice none 0 0, .bool false, .slice none 0 0] rfl rfl ty33 rfl rfl rfl) rfl hG10 (⟨_, _, rfl, rfl, rfl⟩))

set_option maxRecDepth 100000 in
theorem g_Mu_eq {u : World} {D : List Int} {L : List (List Int)} {k : Nat} {i : Nat} {v0 : Value} (h0 : Gv u v0 D L k) (hk : k ≤ 1099511627776) (hlL : L.length ≤ 1099511627776) (hP : GoodP D L) (hi : i < L.length) : Fn Try.prog 48 #[v0, .int .i64 (i : Int), .int .i64 (i : Int)] u (Tup2 (fun u r => CQv u r ((1 : Int) : Rat)) (Is (.int .i64 0))) := by
  obtain ⟨A0, n0, c0, E0, m0, e0, rfl, h0, k0⟩ := h0; have l0 := h0.len; have j0 := k0.len
  have hb : true = true ↔ GoodP D L := ⟨fun _ => hP, fun _ => rfl⟩; have hP1 := hP.2.1
  refine fn_of (args := [_, _, _]) Try.func48 rfl (by show 3 ≤ 56; decide) ?_
  intro w0 hs0
  have hG0 := Gr.refl w0.heap.size u
  refine tri_seq ?_
  refine tri_reg mixed [.new 27 [.slice A0 n0 c0, .slice E0 m0 e0], .new 33 [.bool false, .slice none 0 0, .bool false, .slice none 0 0], .con (.int .i64 0)] [1, 2, 3, 6] [0, 1] [] ?_ (by decide) ?_ ?_ _ _
  · kernel_rfl
  · exact ⟨al, al, pu, trivial⟩
  rintro p1 x1 u1 hg1 -
  replace h0 := h0.sub (dGik k) hg1.1; replace k0 := k0.sub (dRwk (dGik k)) hg1.1
  have hG1 := hG0.trans hg1
  refine next (g' := [(1, .int .i64 (i : Int)), (2, .int .i64 (i : Int)), (3, pt (p1 0) 0), (6, pt (p1 1) 0)]) (bx' := [⟨p1 0, 27, [.slice A0 n0 c0, .slice E0 m0 e0]⟩, ⟨p1 1, 33, [.bool false, .slice none 0 0, .bool false, .slice none 0 0]⟩]) (rw' := []) (by kernel_rfl) (by kernel_rfl) (by kernel_rfl) ?_
  refine tri_seq ?_
  refine tri_block ?_
  refine tri_seq ?_
  refine tri_reg mixed [.con (.agg #[.slice A0 n0 c0, .slice E0 m0 e0]), .con (.bool true), .con (.bool false), .con (.bool false)] [1, 2, 3, 6, 8] [0, 1] [] ?_ (by decide) ?_ ?_ _ _
  · kernel_rfl
  · exact ⟨ld 0 0 2 ty27, cc fun f u w hs => (g_good ⟨_, _, _, _, _, _, rfl, (h0.sub (dGik k) hs.old), (k0.sub (dRwk (dGik k)) hs.old)⟩ (by omega) hlL hb), pu, pu, trivial⟩
  rintro p2 x2 u2 hg2 -
  replace h0 := h0.sub (dGik k) hg2.1; replace k0 := k0.sub (dRwk (dGik k)) hg2.1
  have hG2 := hG1.trans hg2
  refine next (g' := [(1, .int .i64 (i : Int)), (2, .int .i64 (i : Int)), (3, pt (p1 0) 0), (6, pt (p1 1) 0), (8, .bool false)]) (bx' := [⟨p1 0, 27, [.slice A0 n0 c0, .slice E0 m0 e0]⟩, ⟨p1 1, 33, [.bool false, .slice none 0 0, .bool false, .slice none 0 0]⟩]) (rw' := []) (by kernel_rfl) (by kernel_rfl) (by kernel_rfl) ?_
  refine tri_false rfl ?_
  refine tri_seq ?_
  refine tri_reg mixed [.con (.int .i64 (i : Int)), .con (.bool false), .con (.bool false), .con (.int .i64 (i : Int)), .con (pt (p1 0) 1), .con (.slice E0 m0 e0), .con (.int .i64 (m0 : Int)), .con (.bool false), .con (.bool false), .con (.bool false), .con (.int .i64 (i : Int)), .con (.bool false), .con (.bool false), .con (.bool false), .con (.int .i64 (i : Int)), .con (.int .i64 (i : Int)), .con (.bool false), .con (.bool false), .con (.bool false)] [1, 2, 3, 6, 13] [0, 1] [] ?_ (by decide) ?_ ?_ _ _
  · kernel_rfl
  · exact ⟨pu, pw (bf (p := (i : Int) < 0) (by omega)), pu, pu, pu, ld 0 1 1 ty25, pu, pw (bf (p := (m0 : Int) ≤ (i : Int)) (by omega)), pu, pu, pu, pw (bf (p := (i : Int) < 0) (by omega)), pu, pu, pu, pu, pw (bf (p := (i : Int) < (i : Int)) (by omega)), pu, pu, trivial⟩
  rintro p3 x3 u3 hg3 -
  replace h0 := h0.sub (dGik k) hg3.1; replace k0 := k0.sub (dRwk (dGik k)) hg3.1
  have hG3 := hG2.trans hg3
  refine next (g' := [(1, .int .i64 (i : Int)), (2, .int .i64 (i : Int)), (3, pt (p1 0) 0), (6, pt (p1 1) 0), (13, .bool false)]) (bx' := [⟨p1 0, 27, [.slice A0 n0 c0, .slice E0 m0 e0]⟩, ⟨p1 1, 33, [.bool false, .slice none 0 0, .bool false, .slice none 0 0]⟩]) (rw' := []) (by kernel_rfl) (by kernel_rfl) (by kernel_rfl) ?_
  refine tri_false rfl ?_
  refine tri_seq ?_
  refine tri_reg mixed [.con (.int .i64 (i : Int)), .con (.int .i64 (i : Int)), .con (.bool true), .con (.bool true)] [1, 2, 3, 6, 33] [0, 1] [] ?_ (by decide) ?_ ?_ _ _
  · kernel_rfl
  · exact ⟨pu, pu, pw (bet (a := (i : Int)) (b := (i : Int)) (by rfl)), pu, trivial⟩
  rintro p4 x4 u4 hg4 -
  replace h0 := h0.sub (dGik k) hg4.1; replace k0 := k0.sub (dRwk (dGik k)) hg4.1
  have hG4 := hG3.trans hg4
  refine next (g' := [(1, .int .i64 (i : Int)), (2, .int .i64 (i : Int)), (3, pt (p1 0) 0), (6, pt (p1 1) 0), (33, .bool true)]) (bx' := [⟨p1 0, 27, [.slice A0 n0 c0, .slice E0 m0 e0]⟩, ⟨p1 1, 33, [.bool false, .slice none 0 0, .bool false, .slice none 0 0]⟩]) (rw' := []) (by kernel_rfl) (by kernel_rfl) (by kernel_rfl) ?_
  refine tri_true rfl ?_
  refine tri_seq ?_
  refine tri_reg mixed [.opq (fun u r => Cv u r 1), .opq (fun u r => CQv u r ((1 : Int) : Rat)), .sto ⟨1, 0, .op 1⟩, .con (.int .i64 0)] [6, 7] [1] [] ?_ (by decide) ?_ ?_ _ _
  · kernel_rfl
  · exact ⟨ca (Cv.m _) fun f u w hs => (z_Of (by omega) (by omega)), ca (CQv.m _) fun f u w hs => (r_Of ((hs.opq 0 _ rfl rfl).iv (zl_of (by omega) (by omega))) (by omega)), st 1 0 4 ty33 (fun f u w hs => kn rfl (CQv.flat (hs.opq 1 _ rfl rfl))), pu, trivial⟩
  rintro p5 x5 u5 hg5 ⟨q0, q1, -⟩
  replace h0 := h0.sub (dGik k) hg5.1; replace k0 := k0.sub (dRwk (dGik k)) hg5.1
  have hG5 := hG4.trans hg5
  obtain ⟨s5_1, A5_1, n5_1, c5_1, t5_1, D5_1, m5_1, d5_1, e5_1, h5_1, k5_1⟩ := q1; rw [fun_upd (i := 1) e5_1]
  refine next (g' := [(6, pt (p1 1) 0), (7, .int .i64 0)]) (bx' := [⟨p1 1, 33, [.bool s5_1, .slice A5_1 n5_1 c5_1, .bool t5_1, .slice D5_1 m5_1 d5_1]⟩]) (rw' := []) (by kernel_rfl) (by kernel_rfl) (by kernel_rfl) ?_
  exact tri_ret (ret2 rfl (.agg #[.bool s5_1, .slice A5_1 n5_1 c5_1, .bool t5_1, .slice D5_1 m5_1 d5_1]) (.int .i64 0) (rv_cell 0 (p1 1) 4 33 [.bool s5_1, .slice A5_1 n5_1 c5_1, .bool t5_1, .slice D5_1 m5_1 d5_1] rfl rfl ty33 rfl rfl rfl) rfl hG5 (⟨_, _, rfl, ⟨_, _, _, _, _, _, _, _, rfl, h5_1, k5_1⟩, rfl⟩))

set_option maxRecDepth 100000 in
theorem g_Mu {u : World} {D : List Int} {L : List (List Int)} {k : Nat} {i j : Nat} {v0 : Value} (h0 : Gv u v0 D L k) (hk : k ≤ 1099511627776) (hlL : L.length ≤ 1099511627776) (hP : GoodP D L) (hi : i < L.length) (hj : j < i) : Fn Try.prog 48 #[v0, .int .i64 (i : Int), .int .i64 (j : Int)] u (Tup2 (fun u r => CQv u r (((((L.getD i []).getD j 0 : Int)) : Rat) / ((D.getD (j + 1) 0 : Int) : Rat))) (Is (.int .i64 0))) := by
  obtain ⟨A0, n0, c0, E0, m0, e0, rfl, h0, k0⟩ := h0; have l0 := h0.len; have j0 := k0.len
  have hb : true = true ↔ GoodP D L := ⟨fun _ => hP, fun _ => rfl⟩; have hP1 := hP.2.1; have hli := (hP.2.2.2 i hi).1; have hp0 := good_pos hP (i := j + 1) (by omega)
  refine fn_of (args := [_, _, _]) Try.func48 rfl (by show 3 ≤ 56; decide) ?_
  intro w0 hs0
  have hG0 := Gr.refl w0.heap.size u
  refine tri_seq ?_
  refine tri_reg mixed [.new 27 [.slice A0 n0 c0, .slice E0 m0 e0], .new 33 [.bool false, .slice none 0 0, .bool false, .slice none 0 0], .con (.int .i64 0)] [1, 2, 3, 6] [0, 1] [] ?_ (by decide) ?_ ?_ _ _
  · kernel_rfl
  · exact ⟨al, al, pu, trivial⟩
  rintro p1 x1 u1 hg1 -
  replace h0 := h0.sub (dGik k) hg1.1; replace k0 := k0.sub (dRwk (dGik k)) hg1.1
  have hG1 := hG0.trans hg1
  refine next (g' := [(1, .int .i64 (i : Int)), (2, .int .i64 (j : Int)), (3, pt (p1 0) 0), (6, pt (p1 1) 0)]) (bx' := [⟨p1 0, 27, [.slice A0 n0 c0, .slice E0 m0 e0]⟩, ⟨p1 1, 33, [.bool false, .slice none 0 0, .bool false, .slice none 0 0]⟩]) (rw' := []) (by kernel_rfl) (by kernel_rfl) (by kernel_rfl) ?_
  refine tri_seq ?_
  refine tri_block ?_
  refine tri_seq ?_
  refine tri_reg mixed [.con (.agg #[.slice A0 n0 c0, .slice E0 m0 e0]), .con (.bool true), .con (.bool false), .con (.bool false)] [1, 2, 3, 6, 8] [0, 1] [] ?_ (by decide) ?_ ?_ _ _
  · kernel_rfl
  · exact ⟨ld 0 0 2 ty27, cc fun f u w hs => (g_good ⟨_, _, _, _, _, _, rfl, (h0.sub (dGik k) hs.old), (k0.sub (dRwk (dGik k)) hs.old)⟩ (by omega) hlL hb), pu, pu, trivial⟩
  rintro p2 x2 u2 hg2 -
  replace h0 := h0.sub (dGik k) hg2.1; replace k0 := k0.sub (dRwk (dGik k)) hg2.1
  have hG2 := hG1.trans hg2
  refine next (g' := [(1, .int .i64 (i : Int)), (2, .int .i64 (j : Int)), (3, pt (p1 0) 0), (6, pt (p1 1) 0), (8, .bool false)]) (bx' := [⟨p1 0, 27, [.slice A0 n0 c0, .slice E0 m0 e0]⟩, ⟨p1 1, 33, [.bool false, .slice none 0 0, .bool false, .slice none 0 0]⟩]) (rw' := []) (by kernel_rfl) (by kernel_rfl) (by kernel_rfl) ?_
  refine tri_false rfl ?_
  refine tri_seq ?_
  refine tri_reg mixed [.con (.int .i64 (i : Int)), .con (.bool false), .con (.bool false), .con (.int .i64 (i : Int)), .con (pt (p1 0) 1), .con (.slice E0 m0 e0), .con (.int .i64 (m0 : Int)), .con (.bool false), .con (.bool false), .con (.bool false), .con (.int .i64 (j : Int)), .con (.bool false), .con (.bool false), .con (.bool false), .con (.int .i64 (j : Int)), .con (.int .i64 (i : Int)), .con (.bool false), .con (.bool false), .con (.bool false)] [1, 2, 3, 6, 13] [0, 1] [] ?_ (by decide) ?_ ?_ _ _
  · kernel_rfl
  · exact ⟨pu, pw (bf (p := (i : Int) < 0) (by omega)), pu, pu, pu, ld 0 1 1 ty25, pu, pw (bf (p := (m0 : Int) ≤ (i : Int)) (by omega)), pu, pu, pu, pw (bf (p := (j : Int) < 0) (by omega)), pu, pu, pu, pu, pw (bf (p := (i : Int) < (j : Int)) (by omega)), pu, pu, trivial⟩
  rintro p3 x3 u3 hg3 -
  replace h0 := h0.sub (dGik k) hg3.1; replace k0 := k0.sub (dRwk (dGik k)) hg3.1
  have hG3 := hG2.trans hg3
  refine next (g' := [(1, .int .i64 (i : Int)), (2, .int .i64 (j : Int)), (3, pt (p1 0) 0), (6, pt (p1 1) 0), (13, .bool false)]) (bx' := [⟨p1 0, 27, [.slice A0 n0 c0, .slice E0 m0 e0]⟩, ⟨p1 1, 33, [.bool false, .slice none 0 0, .bool false, .slice none 0 0]⟩]) (rw' := []) (by kernel_rfl) (by kernel_rfl) (by kernel_rfl) ?_
  refine tri_false rfl ?_
  refine tri_seq ?_
  refine tri_reg mixed [.con (.int .i64 (i : Int)), .con (.int .i64 (j : Int)), .con (.bool false), .con (.bool false)] [1, 2, 3, 6, 33] [0, 1] [] ?_ (by decide) ?_ ?_ _ _
  · kernel_rfl
  · exact ⟨pu, pu, pw (bef (a := (i : Int)) (b := (j : Int)) (by omega)), pu, trivial⟩
  rintro p4 x4 u4 hg4 -
  replace h0 := h0.sub (dGik k) hg4.1; replace k0 := k0.sub (dRwk (dGik k)) hg4.1
  have hG4 := hG3.trans hg4
  refine next (g' := [(1, .int .i64 (i : Int)), (2, .int .i64 (j : Int)), (3, pt (p1 0) 0), (6, pt (p1 1) 0), (33, .bool false)]) (bx' := [⟨p1 0, 27, [.slice A0 n0 c0, .slice E0 m0 e0]⟩, ⟨p1 1, 33, [.bool false, .slice none 0 0, .bool false, .slice none 0 0]⟩]) (rw' := []) (by kernel_rfl) (by kernel_rfl) (by kernel_rfl) ?_
  refine tri_false rfl ?_
  refine tri_skip ?_
  refine pn_blk ?_
  refine next rfl rfl rfl ?_
  refine tri_seq ?_
  obtain ⟨ad6, A6z, n6z, c6z, ha6, he6, hl6, hc6e⟩ := rw_at (dGik k) k0 i (by omega)
  obtain ⟨ad7, s7z, A7z, n7z, c7z, ha7, he7, hc7e⟩ := gi_at he6 j (by omega)
  obtain ⟨ad8, s8z, A8z, n8z, c8z, ha8, he8, hc8e⟩ := gi_at h0 (j + 1) (by omega)
  refine tri_reg mixed [.con (pt (p1 0) 1), .con (.slice E0 m0 e0), .con (.int .i64 (i : Int)), .con (.pointer (some (ad6.add (((i : Int) : Int).toNat * 1)))), .con (.slice A6z n6z c6z), .con (.int .i64 (j : Int)), .con (.pointer (some (ad7.add (((j : Int) : Int).toNat * 2)))), .con (.agg #[.bool s7z, .slice A7z n7z c7z]), .con (pt (p1 0) 0), .con (.slice A0 n0 c0), .con (.int .i64 (j : Int)), .con (.int .i64 ((j + 1 : Nat) : Int)), .con (.pointer (some (ad8.add ((((j + 1 : Nat) : Int) : Int).toNat * 2)))), .con (.agg #[.bool s8z, .slice A8z n8z c8z]), .opq (Tup2 (fun u r => CQv u r (((((L.getD i []).getD j 0) : Int) : Rat) / (((D.getD (j + 1) 0) : Int) : Rat))) (Is (.int .i64 0))), .opq (fun u r => CQv u r (((((L.getD i []).getD j 0) : Int) : Rat) / (((D.getD (j + 1) 0) : Int) : Rat))), .con (.int .i64 0), .sto ⟨1, 0, .op 15⟩, .con (.int .i64 0)] [6, 7] [1] [] ?_ (by decide) ?_ ?_ _ _
  · kernel_rfl
  · exact ⟨pu, ld 0 1 1 ty25, pu, ix (kk := .i64) (n := m0) (c := e0) sl25 ha6 (by omega) (by omega), li ty24 (vs := [.slice A6z n6z c6z]) hc6e rfl, pu, ix (kk := .i64) (n := n6z) (c := c6z) sl24 ha7 (by omega) (by omega), li ty31 (vs := [.bool s7z, .slice A7z n7z c7z]) hc7e rfl, pu, ld 0 0 1 ty24, pu, pw (w64 (n := (j : Int) + 1) (by omega)), ix (kk := .i64) (n := n0) (c := c0) sl24 ha8 (by omega) (by omega), li ty31 (vs := [.bool s8z, .slice A8z n8z c8z]) hc8e rfl, ca (Tup2.mono (CQv.m _) (Is.mono _)) fun f u w hs => (r_Make ⟨_, _, _, _, rfl, he7.sub hs.old⟩ ⟨_, _, _, _, rfl, he8.sub hs.old⟩ (by omega) (by omega) (by omega)), ex2a 14 (CQv.m _), ex2c 14, st 1 0 4 ty33 (fun f u w hs => kn rfl (CQv.flat (hs.opq 15 _ rfl rfl))), pu, trivial⟩
  rintro p5 x5 u5 hg5 ⟨q14, q15, -⟩
  replace h0 := h0.sub (dGik k) hg5.1; replace he6 := he6.sub (dGik k) hg5.1; replace he7 := he7.sub hg5.1; replace he8 := he8.sub hg5.1; replace k0 := k0.sub (dRwk (dGik k)) hg5.1
  have hG5 := hG4.trans hg5
  obtain ⟨s5_15, A5_15, n5_15, c5_15, t5_15, D5_15, m5_15, d5_15, e5_15, h5_15, k5_15⟩ := q15; rw [fun_upd (i := 15) e5_15]
  refine next (g' := [(6, pt (p1 1) 0), (7, .int .i64 0)]) (bx' := [⟨p1 1, 33, [.bool s5_15, .slice A5_15 n5_15 c5_15, .bool t5_15, .slice D5_15 m5_15 d5_15]⟩]) (rw' := []) (by kernel_rfl) (by kernel_rfl) (by kernel_rfl) ?_
  exact tri_ret (ret2 rfl (.agg #[.bool s5_15, .slice A5_15 n5_15 c5_15, .bool t5_15, .slice D5_15 m5_15 d5_15]) (.int .i64 0) (rv_cell 0 (p1 1) 4 33 [.bool s5_15, .slice A5_15 n5_15 c5_15, .bool t5_15, .slice D5_15 m5_15 d5_15] rfl rfl ty33 rfl rfl rfl) rfl hG5 (⟨_, _, rfl, ⟨_, _, _, _, _, _, _, _, rfl, h5_15, k5_15⟩, rfl⟩))

set_option maxRecDepth 100000 in
theorem r05_Mu_eq {u : World} {D : List Int} {L : List (List Int)} {k : Nat} {i : Nat} {v0 : Value} (h0 : Gv u v0 D L k) (hk : k ≤ 1099511627776) (hlL : L.length ≤ 1099511627776) : Fn Try.prog 54 #[v0, .int .i64 (i : Int), .int .i64 (i : Int)] u (fun u r => CQv u r ((1 : Int) : Rat)) := by
  obtain ⟨A0, n0, c0, E0, m0, e0, rfl, h0, k0⟩ := h0; have l0 := h0.len; have j0 := k0.len
  refine fn_of (args := [_, _, _]) Try.func54 rfl (by show 3 ≤ 27; decide) ?_
  intro w0 hs0
  have hG0 := Gr.refl w0.heap.size u
  refine tri_seq ?_
  refine tri_reg mixed [.new 27 [.slice A0 n0 c0, .slice E0 m0 e0], .new 33 [.bool false, .slice none 0 0, .bool false, .slice none 0 0]] [1, 2, 3, 6] [0, 1] [] ?_ (by decide) ?_ ?_ _ _
  · kernel_rfl
  · exact ⟨al, al, trivial⟩
  rintro p1 x1 u1 hg1 -
  replace h0 := h0.sub (dGik k) hg1.1; replace k0 := k0.sub (dRwk (dGik k)) hg1.1
  have hG1 := hG0.trans hg1
  refine next (g' := [(1, .int .i64 (i : Int)), (2, .int .i64 (i : Int)), (3, pt (p1 0) 0), (6, pt (p1 1) 0)]) (bx' := [⟨p1 0, 27, [.slice A0 n0 c0, .slice E0 m0 e0]⟩, ⟨p1 1, 33, [.bool false, .slice none 0 0, .bool false, .slice none 0 0]⟩]) (rw' := []) (by kernel_rfl) (by kernel_rfl) (by kernel_rfl) ?_
  refine tri_seq ?_
  refine tri_seq ?_
  refine tri_reg mixed [.con (.int .i64 (i : Int)), .con (.int .i64 (i : Int)), .con (.bool true)] [1, 2, 3, 6, 9] [0, 1] [] ?_ (by decide) ?_ ?_ _ _
  · kernel_rfl
  · exact ⟨pu, pu, pw (bet (a := (i : Int)) (b := (i : Int)) (by rfl)), trivial⟩
  rintro p2 x2 u2 hg2 -
  replace h0 := h0.sub (dGik k) hg2.1; replace k0 := k0.sub (dRwk (dGik k)) hg2.1
  have hG2 := hG1.trans hg2
  refine next (g' := [(1, .int .i64 (i : Int)), (2, .int .i64 (i : Int)), (3, pt (p1 0) 0), (6, pt (p1 1) 0), (9, .bool true)]) (bx' := [⟨p1 0, 27, [.slice A0 n0 c0, .slice E0 m0 e0]⟩, ⟨p1 1, 33, [.bool false, .slice none 0 0, .bool false, .slice none 0 0]⟩]) (rw' := []) (by kernel_rfl) (by kernel_rfl) (by kernel_rfl) ?_
  refine tri_true rfl ?_
  refine tri_seq ?_
  refine tri_reg mixed [.opq (fun u r => Cv u r 1), .opq (fun u r => CQv u r ((1 : Int) : Rat)), .sto ⟨1, 0, .op 1⟩] [6] [1] [] ?_ (by decide) ?_ ?_ _ _
  · kernel_rfl
  · exact ⟨ca (Cv.m _) fun f u w hs => (r02_Of (by omega) (by omega)), ca (CQv.m _) fun f u w hs => (r03_Of ((hs.opq 0 _ rfl rfl).iv (zl_of (by omega) (by omega))) (by omega)), st 1 0 4 ty33 (fun f u w hs => kn rfl (CQv.flat (hs.opq 1 _ rfl rfl))), trivial⟩
  rintro p3 x3 u3 hg3 ⟨q0, q1, -⟩
  replace h0 := h0.sub (dGik k) hg3.1; replace k0 := k0.sub (dRwk (dGik k)) hg3.1
  have hG3 := hG2.trans hg3
  obtain ⟨s3_1, A3_1, n3_1, c3_1, t3_1, D3_1, m3_1, d3_1, e3_1, h3_1, k3_1⟩ := q1; rw [fun_upd (i := 1) e3_1]
  refine next (g' := [(6, pt (p1 1) 0)]) (bx' := [⟨p1 1, 33, [.bool s3_1, .slice A3_1 n3_1 c3_1, .bool t3_1, .slice D3_1 m3_1 d3_1]⟩]) (rw' := []) (by kernel_rfl) (by kernel_rfl) (by kernel_rfl) ?_
  exact tri_ret (ret1 rfl (.agg #[.bool s3_1, .slice A3_1 n3_1 c3_1, .bool t3_1, .slice D3_1 m3_1 d3_1]) (rv_cell 0 (p1 1) 4 33 [.bool s3_1, .slice A3_1 n3_1 c3_1, .bool t3_1, .slice D3_1 m3_1 d3_1] rfl rfl ty33 rfl rfl rfl) hG3 (⟨_, _, _, _, _, _, _, _, rfl, h3_1, k3_1⟩))

set_option maxRecDepth 100000 in
theorem r05_Mu {u : World} {D : List Int} {L : List (List Int)} {k : Nat} {i j : Nat} {v0 : Value} (h0 : Gv u v0 D L k) (hk : k ≤ 1099511627776) (hlL : L.length ≤ 1099511627776) (hP : GoodP D L) (hi : i < L.length) (hj : j < i) : Fn Try.prog 54 #[v0, .int .i64 (i : Int), .int .i64 (j : Int)] u (fun u r => CQv u r (((((L.getD i []).getD j 0 : Int)) : Rat) / ((D.getD (j + 1) 0 : Int) : Rat))) := by
  obtain ⟨A0, n0, c0, E0, m0, e0, rfl, h0, k0⟩ := h0; have l0 := h0.len; have j0 := k0.len
  have hP1 := hP.2.1; have hli := (hP.2.2.2 i hi).1; have hp0 := good_pos hP (i := j + 1) (by omega)
  refine fn_of (args := [_, _, _]) Try.func54 rfl (by show 3 ≤ 27; decide) ?_
  intro w0 hs0
  have hG0 := Gr.refl w0.heap.size u
  refine tri_seq ?_
  refine tri_reg mixed [.new 27 [.slice A0 n0 c0, .slice E0 m0 e0], .new 33 [.bool false, .slice none 0 0, .bool false, .slice none 0 0]] [1, 2, 3, 6] [0, 1] [] ?_ (by decide) ?_ ?_ _ _
  · kernel_rfl
  · exact ⟨al, al, trivial⟩
  rintro p1 x1 u1 hg1 -
  replace h0 := h0.sub (dGik k) hg1.1; replace k0 := k0.sub (dRwk (dGik k)) hg1.1
  have hG1 := hG0.trans hg1
  refine next (g' := [(1, .int .i64 (i : Int)), (2, .int .i64 (j : Int)), (3, pt (p1 0) 0), (6, pt (p1 1) 0)]) (bx' := [⟨p1 0, 27, [.slice A0 n0 c0, .slice E0 m0 e0]⟩, ⟨p1 1, 33, [.bool false, .slice none 0 0, .bool false, .slice none 0 0]⟩]) (rw' := []) (by kernel_rfl) (by kernel_rfl) (by kernel_rfl) ?_
  refine tri_seq ?_
  refine tri_seq ?_
  refine tri_reg mixed [.con (.int .i64 (i : Int)), .con (.int .i64 (j : Int)), .con (.bool false)] [1, 2, 3, 6, 9] [0, 1] [] ?_ (by decide) ?_ ?_ _ _
  · kernel_rfl
  · exact ⟨pu, pu, pw (bef (a := (i : Int)) (b := (j : Int)) (by omega)), trivial⟩
  rintro p2 x2 u2 hg2 -
  replace h0 := h0.sub (dGik k) hg2.1; replace k0 := k0.sub (dRwk (dGik k)) hg2.1
  have hG2 := hG1.trans hg2
  refine next (g' := [(1, .int .i64 (i : Int)), (2, .int .i64 (j : Int)), (3, pt (p1 0) 0), (6, pt (p1 1) 0), (9, .bool false)]) (bx' := [⟨p1 0, 27, [.slice A0 n0 c0, .slice E0 m0 e0]⟩, ⟨p1 1, 33, [.bool false, .slice none 0 0, .bool false, .slice none 0 0]⟩]) (rw' := []) (by kernel_rfl) (by kernel_rfl) (by kernel_rfl) ?_
  refine tri_false rfl ?_
  refine tri_skip ?_
  refine next rfl rfl rfl ?_
  refine tri_seq ?_
  obtain ⟨ad4, A4z, n4z, c4z, ha4, he4, hl4, hc4e⟩ := rw_at (dGik k) k0 i (by omega)
  obtain ⟨ad5, s5z, A5z, n5z, c5z, ha5, he5, hc5e⟩ := gi_at he4 j (by omega)
  obtain ⟨ad6, s6z, A6z, n6z, c6z, ha6, he6, hc6e⟩ := gi_at h0 (j + 1) (by omega)
  refine tri_reg mixed [.con (pt (p1 0) 1), .con (.slice E0 m0 e0), .con (.int .i64 (i : Int)), .con (.pointer (some (ad4.add (((i : Int) : Int).toNat * 1)))), .con (.slice A4z n4z c4z), .con (.int .i64 (j : Int)), .con (.pointer (some (ad5.add (((j : Int) : Int).toNat * 2)))), .con (.agg #[.bool s5z, .slice A5z n5z c5z]), .con (pt (p1 0) 0), .con (.slice A0 n0 c0), .con (.int .i64 (j : Int)), .con (.int .i64 ((j + 1 : Nat) : Int)), .con (.pointer (some (ad6.add ((((j + 1 : Nat) : Int) : Int).toNat * 2)))), .con (.agg #[.bool s6z, .slice A6z n6z c6z]), .opq (fun u r => CQv u r (((((L.getD i []).getD j 0) : Int) : Rat) / (((D.getD (j + 1) 0) : Int) : Rat))), .sto ⟨1, 0, .op 14⟩] [6] [1] [] ?_ (by decide) ?_ ?_ _ _
  · kernel_rfl
  · exact ⟨pu, ld 0 1 1 ty25, pu, ix (kk := .i64) (n := m0) (c := e0) sl25 ha4 (by omega) (by omega), li ty24 (vs := [.slice A4z n4z c4z]) hc4e rfl, pu, ix (kk := .i64) (n := n4z) (c := c4z) sl24 ha5 (by omega) (by omega), li ty31 (vs := [.bool s5z, .slice A5z n5z c5z]) hc5e rfl, pu, ld 0 0 1 ty24, pu, pw (w64 (n := (j : Int) + 1) (by omega)), ix (kk := .i64) (n := n0) (c := c0) sl24 ha6 (by omega) (by omega), li ty31 (vs := [.bool s6z, .slice A6z n6z c6z]) hc6e rfl, ca (CQv.m _) fun f u w hs => (r03_Make ⟨_, _, _, _, rfl, he5.sub hs.old⟩ ⟨_, _, _, _, rfl, he6.sub hs.old⟩ (by omega) (by omega) (by omega)), st 1 0 4 ty33 (fun f u w hs => kn rfl (CQv.flat (hs.opq 14 _ rfl rfl))), trivial⟩
  rintro p3 x3 u3 hg3 ⟨q14, -⟩
  replace h0 := h0.sub (dGik k) hg3.1; replace he4 := he4.sub (dGik k) hg3.1; replace he5 := he5.sub hg3.1; replace he6 := he6.sub hg3.1; replace k0 := k0.sub (dRwk (dGik k)) hg3.1
  have hG3 := hG2.trans hg3
  obtain ⟨s3_14, A3_14, n3_14, c3_14, t3_14, D3_14, m3_14, d3_14, e3_14, h3_14, k3_14⟩ := q14; rw [fun_upd (i := 14) e3_14]
  refine next (g' := [(6, pt (p1 1) 0)]) (bx' := [⟨p1 1, 33, [.bool s3_14, .slice A3_14 n3_14 c3_14, .bool t3_14, .slice D3_14 m3_14 d3_14]⟩]) (rw' := []) (by kernel_rfl) (by kernel_rfl) (by kernel_rfl) ?_
  exact tri_ret (ret1 rfl (.agg #[.bool s3_14, .slice A3_14 n3_14 c3_14, .bool t3_14, .slice D3_14 m3_14 d3_14]) (rv_cell 0 (p1 1) 4 33 [.bool s3_14, .slice A3_14 n3_14 c3_14, .bool t3_14, .slice D3_14 m3_14 d3_14] rfl rfl ty33 rfl rfl rfl) hG3 (⟨_, _, _, _, _, _, _, _, rfl, h3_14, k3_14⟩))

set_option maxRecDepth 100000 in
theorem w_place_no {u : World} {D : List Int} {L : List (List Int)} {k : Nat} {z y : Int} {v0 : Value} (h0 : Gv u v0 D L k) (hz : ¬ (0 ≤ z ∧ z < (L.length : Int) ∧ 0 ≤ y ∧ y ≤ z)) : Fn Try.prog 53 #[v0, .int .i64 z, .int .i64 y] u (Is (.bool false)) := by
  obtain ⟨A0, n0, c0, E0, m0, e0, rfl, h0, k0⟩ := h0; have l0 := h0.len; have j0 := k0.len
  refine fn_of (args := [_, _, _]) Try.func53 rfl (by show 3 ≤ 21; decide) ?_
  intro w0 hs0
  have hG0 := Gr.refl w0.heap.size u
  refine tri_seq ?_
  refine tri_reg mixed [.new 27 [.slice A0 n0 c0, .slice E0 m0 e0], .con (.bool false)] [1, 2, 3] [0] [] ?_ (by decide) ?_ ?_ _ _
  · kernel_rfl
  · exact ⟨al, pu, trivial⟩
  rintro p1 x1 u1 hg1 -
  replace h0 := h0.sub (dGik k) hg1.1; replace k0 := k0.sub (dRwk (dGik k)) hg1.1
  have hG1 := hG0.trans hg1
  refine next (g' := [(1, .int .i64 z), (2, .int .i64 y), (3, pt (p1 0) 0)]) (bx' := [⟨p1 0, 27, [.slice A0 n0 c0, .slice E0 m0 e0]⟩]) (rw' := []) (by kernel_rfl) (by kernel_rfl) (by kernel_rfl) ?_
  refine tri_seq ?_
  rcases tri3 (¬ 0 ≤ y) (¬ y ≤ z) with q0 | ⟨q0, q1⟩ | ⟨q0, q1⟩
  · refine tri_reg mixed [.con (.int .i64 y), .con (.bool false), .con (.bool false), .con undef, .con undef, .con undef, .con (.bool false), .con (.bool false), .con undef, .con undef, .con undef, .con undef, .con undef, .con (.bool false), .con (.bool false)] [6] [] [] ?_ (by decide) ?_ ?_ _ _
    · kernel_rfl
    · exact ⟨pu, pw (bf (p := 0 ≤ y) (by omega)), pu, trivial, trivial, trivial, pu, pu, trivial, trivial, trivial, trivial, trivial, pu, pu, trivial⟩
    rintro p2 x2 u2 hg2 -
    replace h0 := h0.sub (dGik k) hg2.1; replace k0 := k0.sub (dRwk (dGik k)) hg2.1
    have hG2 := hG1.trans hg2
    refine next (g' := [(6, .bool false)]) (bx' := []) (rw' := []) (by kernel_rfl) (by kernel_rfl) (by kernel_rfl) ?_
    exact tri_ret (ret1 rfl (.bool false) rfl hG2 (rfl))
  · refine tri_reg mixed [.con (.int .i64 y), .con (.bool true), .con (.bool true), .con (.int .i64 y), .con (.int .i64 z), .con (.bool false), .con (.bool false), .con (.bool false), .con undef, .con undef, .con undef, .con undef, .con undef, .con (.bool false), .con (.bool false)] [6] [] [] ?_ (by decide) ?_ ?_ _ _
    · kernel_rfl
    · exact ⟨pu, pw (bt (p := 0 ≤ y) (by omega)), pu, pu, pu, pw (bf (p := y ≤ z) (by omega)), pu, pu, trivial, trivial, trivial, trivial, trivial, pu, pu, trivial⟩
    rintro p3 x3 u3 hg3 -
    replace h0 := h0.sub (dGik k) hg3.1; replace k0 := k0.sub (dRwk (dGik k)) hg3.1
    have hG3 := hG1.trans hg3
    refine next (g' := [(6, .bool false)]) (bx' := []) (rw' := []) (by kernel_rfl) (by kernel_rfl) (by kernel_rfl) ?_
    exact tri_ret (ret1 rfl (.bool false) rfl hG3 (rfl))
  · refine tri_reg mixed [.con (.int .i64 y), .con (.bool true), .con (.bool true), .con (.int .i64 y), .con (.int .i64 z), .con (.bool true), .con (.bool true), .con (.bool true), .con (.int .i64 z), .con (pt (p1 0) 1), .con (.slice E0 m0 e0), .con (.int .i64 (m0 : Int)), .con (.bool false), .con (.bool false), .con (.bool false)] [6] [] [] ?_ (by decide) ?_ ?_ _ _
    · kernel_rfl
    · exact ⟨pu, pw (bt (p := 0 ≤ y) (by omega)), pu, pu, pu, pw (bt (p := y ≤ z) (by omega)), pu, pu, pu, pu, ld 0 1 1 ty25, pu, pw (bf (p := z < (m0 : Int)) (by omega)), pu, pu, trivial⟩
    rintro p4 x4 u4 hg4 -
    replace h0 := h0.sub (dGik k) hg4.1; replace k0 := k0.sub (dRwk (dGik k)) hg4.1
    have hG4 := hG1.trans hg4
    refine next (g' := [(6, .bool false)]) (bx' := []) (rw' := []) (by kernel_rfl) (by kernel_rfl) (by kernel_rfl) ?_
    exact tri_ret (ret1 rfl (.bool false) rfl hG4 (rfl))

set_option maxRecDepth 100000 in
theorem w_place {u : World} {D : List Int} {L : List (List Int)} {k : Nat} {z y : Int} {v0 : Value} (h0 : Gv u v0 D L k) (hz : 0 ≤ z ∧ z < (L.length : Int) ∧ 0 ≤ y ∧ y ≤ z) : Fn Try.prog 53 #[v0, .int .i64 z, .int .i64 y] u (Is (.bool true)) := by
  obtain ⟨A0, n0, c0, E0, m0, e0, rfl, h0, k0⟩ := h0; have l0 := h0.len; have j0 := k0.len
  refine fn_of (args := [_, _, _]) Try.func53 rfl (by show 3 ≤ 21; decide) ?_
  intro w0 hs0
  have hG0 := Gr.refl w0.heap.size u
  refine tri_seq ?_
  refine tri_reg mixed [.new 27 [.slice A0 n0 c0, .slice E0 m0 e0], .con (.bool false)] [1, 2, 3] [0] [] ?_ (by decide) ?_ ?_ _ _
  · kernel_rfl
  · exact ⟨al, pu, trivial⟩
  rintro p1 x1 u1 hg1 -
  replace h0 := h0.sub (dGik k) hg1.1; replace k0 := k0.sub (dRwk (dGik k)) hg1.1
  have hG1 := hG0.trans hg1
  refine next (g' := [(1, .int .i64 z), (2, .int .i64 y), (3, pt (p1 0) 0)]) (bx' := [⟨p1 0, 27, [.slice A0 n0 c0, .slice E0 m0 e0]⟩]) (rw' := []) (by kernel_rfl) (by kernel_rfl) (by kernel_rfl) ?_
  refine tri_seq ?_
  refine tri_reg mixed [.con (.int .i64 y), .con (.bool true), .con (.bool true), .con (.int .i64 y), .con (.int .i64 z), .con (.bool true), .con (.bool true), .con (.bool true), .con (.int .i64 z), .con (pt (p1 0) 1), .con (.slice E0 m0 e0), .con (.int .i64 (m0 : Int)), .con (.bool true), .con (.bool true), .con (.bool true)] [6] [] [] ?_ (by decide) ?_ ?_ _ _
  · kernel_rfl
  · exact ⟨pu, pw (bt (p := 0 ≤ y) (by omega)), pu, pu, pu, pw (bt (p := y ≤ z) (by omega)), pu, pu, pu, pu, ld 0 1 1 ty25, pu, pw (bt (p := z < (m0 : Int)) (by omega)), pu, pu, trivial⟩
  rintro p2 x2 u2 hg2 -
  replace h0 := h0.sub (dGik k) hg2.1; replace k0 := k0.sub (dRwk (dGik k)) hg2.1
  have hG2 := hG1.trans hg2
  refine next (g' := [(6, .bool true)]) (bx' := []) (rw' := []) (by kernel_rfl) (by kernel_rfl) (by kernel_rfl) ?_
  exact tri_ret (ret1 rfl (.bool true) rfl hG2 (rfl))
end Go.Proofs.Ytaagioghkicdkaa
