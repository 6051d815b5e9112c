/- WalkBehinds: for every input it returns true. -/
import Derived.Test.YtaagioghkicdkaaR07
set_option linter.unusedVariables false
set_option linter.unusedSimpArgs false
namespace Go.Proofs.Ytaagioghkicdkaa
open Go.RowKit Go.Proofs.YtaagioghkicdkaaW.PrintWords Mt
set_option maxRecDepth 100000 in
theorem w12_eq {u : World} {z : Int} {v0 : Value} {v1 : Value} (h0 : Cv u v0 z) (h1 : Cv u v1 z)  : Fn Try.prog 28 #[v0, v1] u (Is (.bool true)) := by
  obtain ⟨s0, A0, n0, c0, rfl, g0⟩ := h0; have z0 := g0.1; have h0 : Sl dL u (.slice A0 n0 c0) (dig (z).natAbs) := LCv.sl ⟨_, _, _, rfl, g0.2⟩; have l0 : (dig (z).natAbs).length = n0 := h0.len.1; have j0 := h0.len.2
  obtain ⟨s1, A1, n1, c1, rfl, g1⟩ := h1; have z1 := g1.1; have h1 : Sl dL u (.slice A1 n1 c1) (dig (z).natAbs) := LCv.sl ⟨_, _, _, rfl, g1.2⟩; have l1 : (dig (z).natAbs).length = n1 := h1.len.1; have j1 := h1.len.2
  obtain rfl : s0 = s1 := by rw [z0, z1]
  refine fn_of (args := [_, _]) Try.func28 rfl (by show 2 ≤ 38; decide) ?_
  intro w0 hs0
  have hG0 := Gr.refl w0.heap.size u
  refine tri_seq ?_
  refine tri_reg mixed [.new 31 [.bool s0, .slice A0 n0 c0], .new 31 [.bool s0, .slice A1 n1 c1], .con (.bool false)] [2, 3] [0, 1] [] ?_ (by decide) ?_ ?_ _ _
  · kernel_rfl
  · exact ⟨al, al, pu, trivial⟩
  rintro p1 x1 u1 hg1 -
  replace h0 := h0.sub dLk hg1.1; replace h1 := h1.sub dLk hg1.1
  have hG1 := hG0.trans hg1
  refine next (g' := [(2, pt (p1 0) 0), (3, pt (p1 1) 0)]) (bx' := [⟨p1 0, 31, [.bool s0, .slice A0 n0 c0]⟩, ⟨p1 1, 31, [.bool s0, .slice A1 n1 c1]⟩]) (rw' := []) (by kernel_rfl) (by kernel_rfl) (by kernel_rfl) ?_
  refine tri_seq ?_
  refine tri_seq ?_
  refine tri_reg mixed [.con (pt (p1 0) 0), .con (.bool s0), .con (pt (p1 1) 0), .con (.bool s0), .con (.bool false), .con (.bool false), .con (pt (p1 0) 1), .con (.slice A0 n0 c0), .con (.int .i64 (n0 : Int)), .con (pt (p1 1) 1), .con (.slice A1 n1 c1), .con (.int .i64 (n1 : Int)), .con (.bool false), .con (.bool false)] [2, 3, 19] [0, 1] [] ?_ (by decide) ?_ ?_ _ _
  · kernel_rfl
  · exact ⟨pu, ld 0 0 1 ty4, pu, ld 1 0 1 ty4, pw (bnf (a := s0) (b := s0) (by rfl)), pu, pu, ld 0 1 1 ty29, pu, pu, ld 1 1 1 ty29, pu, pw (bnf (a := (n0 : Int)) (b := (n1 : Int)) (by omega)), pu, trivial⟩
  rintro p2 x2 u2 hg2 -
  replace h0 := h0.sub dLk hg2.1; replace h1 := h1.sub dLk hg2.1
  have hG2 := hG1.trans hg2
  refine next (g' := [(2, pt (p1 0) 0), (3, pt (p1 1) 0), (19, .bool false)]) (bx' := [⟨p1 0, 31, [.bool s0, .slice A0 n0 c0]⟩, ⟨p1 1, 31, [.bool s0, .slice A1 n1 c1]⟩]) (rw' := []) (by kernel_rfl) (by kernel_rfl) (by kernel_rfl) ?_
  refine tri_false rfl ?_
  refine tri_skip ?_
  refine next rfl rfl rfl ?_
  refine tri_seq ?_
  refine tri_seq ?_
  refine tri_reg mixed [.con (.int .i64 0)] [2, 3, 5] [0, 1] [] ?_ (by decide) ?_ ?_ _ _
  · kernel_rfl
  · exact ⟨pu, trivial⟩
  rintro p3 x3 u3 hg3 -
  replace h0 := h0.sub dLk hg3.1; replace h1 := h1.sub dLk hg3.1
  have hG3 := hG2.trans hg3
  refine next (g' := [(2, pt (p1 0) 0), (3, pt (p1 1) 0), (5, .int .i64 0)]) (bx' := [⟨p1 0, 31, [.bool s0, .slice A0 n0 c0]⟩, ⟨p1 1, 31, [.bool s0, .slice A1 n1 c1]⟩]) (rw' := []) (by kernel_rfl) (by kernel_rfl) (by kernel_rfl) ?_
  refine tri_block ?_
  refine tri_loop (fun m_ g_ bx_ rw_ u_ => ∃ (k : Nat), (m_ = n0 - k ∧ Gr w0.heap.size u3 u_ ∧ k ≤ n0 ∧ g_ = [(2, pt (p1 0) 0), (3, pt (p1 1) 0), (5, .int .i64 (k : Int))] ∧ bx_ = [⟨p1 0, 31, [.bool s0, .slice A0 n0 c0]⟩, ⟨p1 1, 31, [.bool s0, .slice A1 n1 c1]⟩] ∧ rw_ = [])) (n0 - 0) ⟨0, rfl, Gr.refl _ _, Nat.zero_le _, rfl, rfl, rfl⟩ ?_
  rintro m_ g_ bx_ rw_ u4 ⟨k, hm_, hg4, hk, rfl, rfl, rfl⟩
  replace h0 := h0.sub dLk hg4.1; replace h1 := h1.sub dLk hg4.1
  have hG4 := hG3.trans hg4
  refine tri_seq ?_
  refine tri_seq ?_
  refine tri_reg mixed [.con (.int .i64 (k : Int)), .con (pt (p1 0) 1), .con (.slice A0 n0 c0), .con (.int .i64 (n0 : Int)), .con (.bool (decide ((k : Int) < (n0 : Int))))] [2, 3, 5, 24] [0, 1] [] ?_ (by decide) ?_ ?_ _ _
  · kernel_rfl
  · exact ⟨pu, pu, ld 0 1 1 ty29, pu, pu, trivial⟩
  rintro p5 x5 u5 hg5 -
  replace h0 := h0.sub dLk hg5.1; replace h1 := h1.sub dLk hg5.1
  have hG5 := hG4.trans hg5
  refine next (g' := [(2, pt (p1 0) 0), (3, pt (p1 1) 0), (5, .int .i64 (k : Int)), (24, .bool (decide ((k : Int) < (n0 : Int))))]) (bx' := [⟨p1 0, 31, [.bool s0, .slice A0 n0 c0]⟩, ⟨p1 1, 31, [.bool s0, .slice A1 n1 c1]⟩]) (rw' := []) (by kernel_rfl) (by kernel_rfl) (by kernel_rfl) ?_
  refine tri_cond (b := (decide ((k : Int) < (n0 : Int)))) rfl (fun hc => ?_) (fun hc => ?_)
  · replace hc := of_decide_eq_true hc
    refine tri_skip ?_
    refine next rfl rfl rfl ?_
    refine tri_seq ?_
    refine tri_block ?_
    refine tri_seq ?_
    obtain ⟨adx, x_, cs_, hAx, hx_, hcs_, hcellx⟩ := h0.at dLk k (by omega)
    have hx_ : x_ = at_ (dig (z).natAbs) k := by unfold at_; rw [List.getD_eq_getElem?_getD, hx_]; rfl
    subst hx_; rw [show cs_ = _ from hcs_] at hcellx; clear hcs_
    obtain ⟨ady, x_, cs_, hAy, hx_, hcs_, hcelly⟩ := h1.at dLk k (by omega)
    have hx_ : x_ = at_ (dig (z).natAbs) k := by unfold at_; rw [List.getD_eq_getElem?_getD, hx_]; rfl
    subst hx_; rw [show cs_ = _ from hcs_] at hcelly; clear hcs_
    refine tri_reg mixed [.con (pt (p1 0) 1), .con (.slice A0 n0 c0), .con (.int .i64 (k : Int)), .con (.pointer (some (adx.add (((k : Int) : Int).toNat * 1)))), .con (.int .u32 (at_ (dig (z).natAbs) k)), .con (pt (p1 1) 1), .con (.slice A1 n1 c1), .con (.int .i64 (k : Int)), .con (.pointer (some (ady.add (((k : Int) : Int).toNat * 1)))), .con (.int .u32 (at_ (dig (z).natAbs) k)), .con (.bool false)] [2, 3, 5, 37] [0, 1] [] ?_ (by decide) ?_ ?_ _ _
    · kernel_rfl
    · exact ⟨pu, ld 0 1 1 ty29, pu, ix (kk := .i64) (n := n0) (c := c0) sl29 hAx (by omega) (by omega), li ty93 (vs := [.int .u32 (at_ (dig (z).natAbs) k)]) hcellx rfl, pu, ld 1 1 1 ty29, pu, ix (kk := .i64) (n := n1) (c := c1) sl29 hAy (by omega) (by omega), li ty93 (vs := [.int .u32 (at_ (dig (z).natAbs) k)]) hcelly rfl, pw (bnf (a := (at_ (dig (z).natAbs) k)) (b := (at_ (dig (z).natAbs) k)) (by rfl)), trivial⟩
    rintro p6 x6 u6 hg6 -
    replace h0 := h0.sub dLk hg6.1; replace h1 := h1.sub dLk hg6.1
    have hG6 := hG5.trans hg6
    refine next (g' := [(2, pt (p1 0) 0), (3, pt (p1 1) 0), (5, .int .i64 (k : Int)), (37, .bool false)]) (bx' := [⟨p1 0, 31, [.bool s0, .slice A0 n0 c0]⟩, ⟨p1 1, 31, [.bool s0, .slice A1 n1 c1]⟩]) (rw' := []) (by kernel_rfl) (by kernel_rfl) (by kernel_rfl) ?_
    refine tri_false rfl ?_
    refine tri_skip ?_
    refine pn_blk ?_
    refine next rfl rfl rfl ?_
    refine tri_reg mixed [.con (.int .i64 (k : Int)), .con (.int .i64 ((k : Int) + 1)), .con (.int .i64 ((k : Int) + 1))] [2, 3, 5] [0, 1] [] ?_ (by decide) ?_ ?_ _ _
    · kernel_rfl
    · exact ⟨pu, pw (w64 (n := (k : Int) + 1) (by omega)), pu, trivial⟩
    rintro p7 x7 u7 hg7 -
    replace h0 := h0.sub dLk hg7.1; replace h1 := h1.sub dLk hg7.1
    have hG7 := hG6.trans hg7
    exact PN.sub (g' := [(2, pt (p1 0) 0), (3, pt (p1 1) 0), (5, .int .i64 ((k + 1) : Int))]) (bx' := [⟨p1 0, 31, [.bool s0, .slice A0 n0 c0]⟩, ⟨p1 1, 31, [.bool s0, .slice A1 n1 c1]⟩]) (rw' := []) ⟨rfl, rfl, (by first | rfl | (simp)), trivial⟩ rfl rfl (pn_at (m' := n0 - (k + 1)) (by omega) ⟨k + 1, rfl, (((hg4).trans hg5).trans hg6).trans hg7, by omega, rfl, rfl, rfl⟩)
  · replace hc := of_decide_eq_false hc
    refine tri_exit ?_
    repeat refine pn_then (by simp) ?_
    refine pn_ex ?_
    refine next rfl rfl rfl ?_
    refine tri_seq ?_
    refine tri_reg mixed [.con (.bool true)] [4] [] [] ?_ (by decide) ?_ ?_ _ _
    · kernel_rfl
    · exact ⟨pu, trivial⟩
    rintro p8 x8 u8 hg8 -
    replace h0 := h0.sub dLk hg8.1; replace h1 := h1.sub dLk hg8.1
    have hG8 := hG5.trans hg8
    refine next (g' := [(4, .bool true)]) (bx' := []) (rw' := []) (by kernel_rfl) (by kernel_rfl) (by kernel_rfl) ?_
    exact tri_ret (ret1 rfl (.bool true) rfl hG8 (rfl))

theorem Sl.cap {α : Type} {d : World → α → List Value → Prop} {u : World} {A : Option Addr} {n c : Nat} {l : List α} (h : Sl d u (.slice A n c) l) : n ≤ c := by
  obtain ⟨A', n', c', e, _, h2, _⟩ := h
  cases e
  exact h2

set_option maxRecDepth 100000 in
theorem w12_own {u : World} {x : Int} {k : Nat} {v0 : Value} (h0 : Iv u v0 x k) (hk : k ≤ 34359738368) : Fn Try.prog 26 #[v0] u (fun u r => Iv u r x k) := by
  obtain ⟨s0, A0, n0, c0, rfl, hb0, N0, ⟨hc0, xs0, hr0, hl0, hv0⟩, hx0⟩ := h0; have h0 := sl_of_reads hr0 hc0; have l0 := hr0.1
  refine fn_of (args := [_]) Try.func26 rfl (by show 1 ≤ 19; decide) ?_
  intro w0 hs0
  have hG0 := Gr.refl w0.heap.size u
  refine tri_seq ?_
  refine tri_reg mixed [.new 31 [.bool s0, .slice A0 n0 c0], .new 31 [.bool false, .slice none 0 0]] [1, 2] [0, 1] [] ?_ (by decide) ?_ ?_ _ _
  · kernel_rfl
  · exact ⟨al, al, trivial⟩
  rintro p1 x1 u1 hg1 -
  replace h0 := h0.sub dLk hg1.1
  have hG1 := hG0.trans hg1
  refine next (g' := [(1, pt (p1 0) 0), (2, pt (p1 1) 0)]) (bx' := [⟨p1 0, 31, [.bool s0, .slice A0 n0 c0]⟩, ⟨p1 1, 31, [.bool false, .slice none 0 0]⟩]) (rw' := []) (by kernel_rfl) (by kernel_rfl) (by kernel_rfl) ?_
  refine tri_seq ?_
  refine tri_reg mixed [.con (.slice none 0 0)] [1, 2, 3] [0, 1] [] ?_ (by decide) ?_ ?_ _ _
  · kernel_rfl
  · exact ⟨pu, trivial⟩
  rintro p2 x2 u2 hg2 -
  replace h0 := h0.sub dLk hg2.1
  have hG2 := hG1.trans hg2
  refine next (g' := [(1, pt (p1 0) 0), (2, pt (p1 1) 0), (3, .slice none 0 0)]) (bx' := [⟨p1 0, 31, [.bool s0, .slice A0 n0 c0]⟩, ⟨p1 1, 31, [.bool false, .slice none 0 0]⟩]) (rw' := []) (by kernel_rfl) (by kernel_rfl) (by kernel_rfl) ?_
  refine tri_seq ?_
  refine tri_nil dLk 93 ?_
  refine tri_reg mixed [.con (.slice none 0 0), .con (pt (p1 0) 1), .con (.slice A0 n0 c0), .rop 0 (fun v => rowE dLk v 93 ([] ++ xs0)), .cpy 3] [1, 2, 3] [0, 1] [0] ?_ (by decide) ?_ ?_ _ _
  · kernel_rfl
  · exact ⟨pu, pu, ld 0 1 1 ty29, apA (hd := dLk) (bytes := 4) 0 sl29 (fun _ => rfl) h0 (by simp only [List.length_nil]; omega) (by decide), cp, trivial⟩
  rintro p3 x3 u3 hg3 -
  replace h0 := h0.sub dLk hg3.1
  have hG3 := hG2.trans hg3
  refine next (g' := [(1, pt (p1 0) 0), (2, pt (p1 1) 0), (3, x3 3)]) (bx' := [⟨p1 0, 31, [.bool s0, .slice A0 n0 c0]⟩, ⟨p1 1, 31, [.bool false, .slice none 0 0]⟩]) (rw' := [rowE dLk (x3 3) 93 ([] ++ xs0)]) (by kernel_rfl) (by kernel_rfl) (by kernel_rfl) ?_
  refine tri_seq ?_
  refine tri_reg mixed [.con (x3 3), .opq (fun u r => Sl dL u r [77, 78, 79, 80, 81, 82, 83, 84, 85]), .rop 0 (fun v => rowE dLk v 93 (([] ++ xs0) ++ [77, 78, 79, 80, 81, 82, 83, 84, 85])), .cpy 2] [1, 2, 3] [0, 1] [0] ?_ (by decide) ?_ ?_ _ _
  · kernel_rfl
  · exact ⟨pu, bsX (m := 9) (e := 93) dLk rfl (by decide) fun f u w hs => by exact ⟨[.int .u32 77, .int .u32 78, .int .u32 79, .int .u32 80, .int .u32 81, .int .u32 82, .int .u32 83, .int .u32 84, .int .u32 85], ⟨[.int .u32 77], _, rfl, rfl, ⟨[.int .u32 78], _, rfl, rfl, ⟨[.int .u32 79], _, rfl, rfl, ⟨[.int .u32 80], _, rfl, rfl, ⟨[.int .u32 81], _, rfl, rfl, ⟨[.int .u32 82], _, rfl, rfl, ⟨[.int .u32 83], _, rfl, rfl, ⟨[.int .u32 84], _, rfl, rfl, ⟨[.int .u32 85], _, rfl, rfl, rfl⟩⟩⟩⟩⟩⟩⟩⟩⟩, by kernel_rfl⟩, ap (hd := dLk) (bytes := 4) 0 1 sl29 (fun _ => rfl) rfl (by simp) (by simp only [List.length_append, List.length_cons, List.length_nil]; omega) (by decide), cp, trivial⟩
  rintro p4 x4 u4 hg4 ⟨q1, -⟩
  replace h0 := h0.sub dLk hg4.1
  have hG4 := hG3.trans hg4
  refine next (g' := [(1, pt (p1 0) 0), (2, pt (p1 1) 0), (3, x4 2)]) (bx' := [⟨p1 0, 31, [.bool s0, .slice A0 n0 c0]⟩, ⟨p1 1, 31, [.bool false, .slice none 0 0]⟩]) (rw' := [rowE dLk (x4 2) 93 (([] ++ xs0) ++ [77, 78, 79, 80, 81, 82, 83, 84, 85])]) (by kernel_rfl) (by kernel_rfl) (by kernel_rfl) ?_
  refine tri_seq ?_
  refine tri_freeze 0 (l := ([] ++ xs0) ++ [77, 78, 79, 80, 81, 82, 83, 84, 85]) rfl fun u6 hg6 hz => ?_
  replace h0 := h0.sub dLk hg6.1
  have hG6 := hG4.trans hg6
  refine tri_cast rfl rfl (rw' := []) rfl ?_
  obtain ⟨zA, zn, zc, ez, hz, lz⟩ := sl_open hz; have hcut := sl_take (l := xs0) (m := [77, 78, 79, 80, 81, 82, 83, 84, 85]) (by simpa using hz); rw [l0] at hcut; have hzc : zn ≤ zc := hz.cap; simp only [List.length_append, List.length_cons, List.length_nil] at lz
  rw [fun_upd (i := 2) ez]
  refine tri_cast (g' := [(1, pt (p1 0) 0), (2, pt (p1 1) 0), (3, .slice zA zn zc)]) (by kernel_rfl) rfl rfl ?_
  refine tri_reg mixed [.con (pt (p1 0) 0), .con (.bool s0), .con (.slice zA zn zc), .con (pt (p1 0) 1), .con (.slice A0 n0 c0), .con (.int .i64 (n0 : Int)), .con (.slice zA n0 zc), .con (.agg #[.bool s0, .slice zA n0 zc]), .sto ⟨1, 0, .op 7⟩] [2] [1] [] ?_ (by decide) ?_ ?_ _ _
  · kernel_rfl
  · exact ⟨pu, ld 0 0 1 ty4, pu, pu, ld 0 1 1 ty29, pu, slH (kk := .i64) (A := zA) (n := zn) (c := zc) sl29 (m := n0) (by omega), pu, st 1 0 2 ty31 (fun f u w hs => kn rfl ⟨rfl, rfl⟩), trivial⟩
  rintro p5 x5 u5 hg5 -
  replace h0 := h0.sub dLk hg5.1; replace hcut := hcut.sub dLk hg5.1
  have hG5 := hG6.trans hg5
  refine next (g' := [(2, pt (p1 1) 0)]) (bx' := [⟨p1 1, 31, [.bool s0, .slice zA n0 zc]⟩]) (rw' := []) (by kernel_rfl) (by kernel_rfl) (by kernel_rfl) ?_
  exact tri_ret (ret1 rfl (.agg #[.bool s0, .slice zA n0 zc]) (rv_cell 0 (p1 1) 2 31 [.bool s0, .slice zA n0 zc] rfl rfl ty31 rfl rfl rfl) hG5 ((by rw [hx0]; exact iv_of (Lv.of hcut hl0 hv0 (by omega)))))

set_option maxRecDepth 100000 in
theorem law_WalkBehinds {u : World} {a b x : Int} {k : Nat} {v0 : Value} {v1 : Value} (h0 : Qv u v0 a b k) (h1 : Iv u v1 x k) (hk : k ≤ 34359738368) : Fn Try.prog 6 #[v0, v1] u (Is (.bool true)) := by
  obtain ⟨s0, A0, n0, c0, t0, D0, m0, e0, rfl, h0, k0⟩ := h0
  obtain ⟨s1, A1, n1, c1, rfl, h1⟩ := h1
  refine fn_of (args := [_, _]) Try.func6 rfl (by show 2 ≤ 33; decide) ?_
  intro w0 hs0
  have hG0 := Gr.refl w0.heap.size u
  refine tri_seq ?_
  refine tri_reg mixed [.new 33 [.bool s0, .slice A0 n0 c0, .bool t0, .slice D0 m0 e0], .new 31 [.bool s1, .slice A1 n1 c1], .con (.bool false)] [2, 3] [0, 1] [] ?_ (by decide) ?_ ?_ _ _
  · kernel_rfl
  · exact ⟨al, al, pu, trivial⟩
  rintro p1 x1 u1 hg1 -
  replace h0 := h0.sub hg1.1; replace h1 := h1.sub hg1.1; replace k0 := k0.sub hg1.1
  have hG1 := hG0.trans hg1
  refine next (g' := [(2, pt (p1 0) 0), (3, pt (p1 1) 0)]) (bx' := [⟨p1 0, 33, [.bool s0, .slice A0 n0 c0, .bool t0, .slice D0 m0 e0]⟩, ⟨p1 1, 31, [.bool s1, .slice A1 n1 c1]⟩]) (rw' := []) (by kernel_rfl) (by kernel_rfl) (by kernel_rfl) ?_
  refine tri_seq ?_
  rcases Classical.em (0 < b) with hb | hb
  · refine tri_reg mixed [.con (.agg #[.bool s0, .slice A0 n0 c0, .bool t0, .slice D0 m0 e0]), .con (.agg #[.bool s1, .slice A1 n1 c1]), .opq (fun u r => Iv u r x k), .opq (Tup2 (fun u r => Cv u r (bhF (((a : Int) : Rat) / ((b : Int) : Rat)) x)) (Is (.int .i64 0))), .opq (Tup2 (fun u r => Cv u r (bhF (((a : Int) : Rat) / ((b : Int) : Rat)) x)) (Is (.int .i64 0))), .opq (fun u r => Cv u r (bhF (((a : Int) : Rat) / ((b : Int) : Rat)) x)), .con (.int .i64 0), .new 31 [.bool false, .slice none 0 0], .sto ⟨9, 0, .op 5⟩, .con (.int .i64 0)] [2, 3, 5, 6] [0, 1, 9] [] ?_ (by decide) ?_ ?_ _ _
    · kernel_rfl
    · exact ⟨ld 0 0 4 ty33, ld 1 0 2 ty31, ca (Iv.m _ _) fun f u w hs => (w12_own ⟨_, _, _, _, rfl, h1.sub hs.old⟩ (by omega)), ca (Tup2.mono (Cv.m _) (Is.mono _)) fun f u w hs => (k_Behind (Qv.mono (b' := k) ⟨_, _, _, _, _, _, _, _, rfl, (h0.sub hs.old), (k0.sub hs.old)⟩ (by omega)) (Iv.mono (hs.opq 2 _ rfl rfl) (by omega)) (by omega) (by omega)), mv 3 (Tup2.mono (Cv.m _) (Is.mono _)), ex2a 4 (Cv.m _), ex2c 4, al, sn 7 2 ty31 (fun f u w hs => kn rfl (Cv.flat (hs.opq 5 _ rfl rfl))), pu, trivial⟩
    rintro p2 x2 u2 hg2 ⟨q2, q3, q4, q5, -⟩
    replace h0 := h0.sub hg2.1; replace h1 := h1.sub hg2.1; replace k0 := k0.sub hg2.1
    have hG2 := hG1.trans hg2
    obtain ⟨s2_5, A2_5, n2_5, c2_5, e2_5, h2_5⟩ := q5; rw [fun_upd (i := 5) e2_5]
    refine next (g' := [(2, pt (p1 0) 0), (3, pt (p1 1) 0), (5, pt (p2 7) 0), (6, .int .i64 0)]) (bx' := [⟨p1 0, 33, [.bool s0, .slice A0 n0 c0, .bool t0, .slice D0 m0 e0]⟩, ⟨p1 1, 31, [.bool s1, .slice A1 n1 c1]⟩, ⟨p2 7, 31, [.bool s2_5, .slice A2_5 n2_5 c2_5]⟩]) (rw' := []) (by kernel_rfl) (by kernel_rfl) (by kernel_rfl) ?_
    refine tri_seq ?_
    refine tri_seq ?_
    refine tri_reg mixed [.con (.agg #[.bool s0, .slice A0 n0 c0, .bool t0, .slice D0 m0 e0]), .con (.bool true), .con (.bool false)] [2, 3, 5, 6, 16] [0, 1, 2] [] ?_ (by decide) ?_ ?_ _ _
    · kernel_rfl
    · exact ⟨ld 0 0 4 ty33, cc fun f u w hs => (fn_is2 (by rw [decide_eq_true (sgpos.2 hb)]) (r03_Valid ⟨_, _, _, _, _, _, _, _, rfl, (h0.sub hs.old), (k0.sub hs.old)⟩ (by omega))), pu, trivial⟩
    rintro p3 x3 u3 hg3 -
    replace h0 := h0.sub hg3.1; replace h1 := h1.sub hg3.1; replace h2_5 := h2_5.sub hg3.1; replace k0 := k0.sub hg3.1
    have hG3 := hG2.trans hg3
    refine next (g' := [(2, pt (p1 0) 0), (3, pt (p1 1) 0), (5, pt (p2 7) 0), (6, .int .i64 0), (16, .bool false)]) (bx' := [⟨p1 0, 33, [.bool s0, .slice A0 n0 c0, .bool t0, .slice D0 m0 e0]⟩, ⟨p1 1, 31, [.bool s1, .slice A1 n1 c1]⟩, ⟨p2 7, 31, [.bool s2_5, .slice A2_5 n2_5 c2_5]⟩]) (rw' := []) (by kernel_rfl) (by kernel_rfl) (by kernel_rfl) ?_
    refine tri_false rfl ?_
    refine tri_skip ?_
    refine next rfl rfl rfl ?_
    refine tri_seq ?_
    refine tri_reg mixed [.con (.int .i64 0), .con (.bool true), .con (.bool true), .con (.agg #[.bool s2_5, .slice A2_5 n2_5 c2_5]), .con (.agg #[.bool s0, .slice A0 n0 c0, .bool t0, .slice D0 m0 e0]), .con (.agg #[.bool s1, .slice A1 n1 c1]), .opq (fun u r => Cv u r (bhF (((a : Int) : Rat) / ((b : Int) : Rat)) x)), .con (.bool true), .con (.bool true), .con (.bool true)] [4] [] [] ?_ (by decide) ?_ ?_ _ _
    · kernel_rfl
    · exact ⟨pu, pu, pu, ld 2 0 2 ty31, ld 0 0 4 ty33, ld 1 0 2 ty31, ca (Cv.m _) fun f u w hs => (r12_Behind (Qv.mono (b' := k) ⟨_, _, _, _, _, _, _, _, rfl, (h0.sub hs.old), (k0.sub hs.old)⟩ (by omega)) (Iv.mono ⟨_, _, _, _, rfl, h1.sub hs.old⟩ (by omega)) (by omega) (by omega)), cc fun f u w hs => (w12_eq ⟨_, _, _, _, rfl, (h2_5.sub hs.old)⟩ (hs.opq 6 _ rfl rfl)), pu, pu, trivial⟩
    rintro p4 x4 u4 hg4 ⟨q6, -⟩
    replace h0 := h0.sub hg4.1; replace h1 := h1.sub hg4.1; replace h2_5 := h2_5.sub hg4.1; replace k0 := k0.sub hg4.1
    have hG4 := hG3.trans hg4
    refine next (g' := [(4, .bool true)]) (bx' := []) (rw' := []) (by kernel_rfl) (by kernel_rfl) (by kernel_rfl) ?_
    exact tri_ret (ret1 rfl (.bool true) rfl hG4 (rfl))
  · refine tri_reg mixed [.con (.agg #[.bool s0, .slice A0 n0 c0, .bool t0, .slice D0 m0 e0]), .con (.agg #[.bool s1, .slice A1 n1 c1]), .opq (fun u r => Iv u r x k), .opq (Tup2 (Is (.agg #[.bool false, .slice none 0 0])) (Is (.int .i64 30))), .opq (Tup2 (Is (.agg #[.bool false, .slice none 0 0])) (Is (.int .i64 30))), .con (.agg #[.bool false, .slice none 0 0]), .con (.int .i64 30), .new 31 [.bool false, .slice none 0 0], .sto ⟨9, 0, .op 5⟩, .con (.int .i64 30)] [2, 3, 5, 6] [0, 1, 9] [] ?_ (by decide) ?_ ?_ _ _
    · kernel_rfl
    · exact ⟨ld 0 0 4 ty33, ld 1 0 2 ty31, ca (Iv.m _ _) fun f u w hs => (w12_own ⟨_, _, _, _, rfl, h1.sub hs.old⟩ (by omega)), ca (Tup2.mono (Is.mono _) (Is.mono _)) fun f u w hs => (k_Behind0 (Qv.mono (b' := k) ⟨_, _, _, _, _, _, _, _, rfl, (h0.sub hs.old), (k0.sub hs.old)⟩ (by omega)) (Iv.mono (hs.opq 2 _ rfl rfl) (by omega)) (by omega) (by omega)), mv 3 (Tup2.mono (Is.mono _) (Is.mono _)), ex2d 4, ex2c 4, al, sn 7 2 ty31 (fun f u w hs => kn rfl ⟨rfl, rfl⟩), pu, trivial⟩
    rintro p5 x5 u5 hg5 ⟨q2, q3, q4, -⟩
    replace h0 := h0.sub hg5.1; replace h1 := h1.sub hg5.1; replace k0 := k0.sub hg5.1
    have hG5 := hG1.trans hg5
    refine next (g' := [(2, pt (p1 0) 0), (3, pt (p1 1) 0), (5, pt (p5 7) 0), (6, .int .i64 30)]) (bx' := [⟨p1 0, 33, [.bool s0, .slice A0 n0 c0, .bool t0, .slice D0 m0 e0]⟩, ⟨p1 1, 31, [.bool s1, .slice A1 n1 c1]⟩, ⟨p5 7, 31, [.bool false, .slice none 0 0]⟩]) (rw' := []) (by kernel_rfl) (by kernel_rfl) (by kernel_rfl) ?_
    refine tri_seq ?_
    refine tri_seq ?_
    refine tri_reg mixed [.con (.agg #[.bool s0, .slice A0 n0 c0, .bool t0, .slice D0 m0 e0]), .con (.bool false), .con (.bool true)] [2, 3, 5, 6, 16] [0, 1, 2] [] ?_ (by decide) ?_ ?_ _ _
    · kernel_rfl
    · exact ⟨ld 0 0 4 ty33, cc fun f u w hs => (fn_is2 (by rw [decide_eq_false (fun h => hb (sgpos.1 h))]) (r03_Valid ⟨_, _, _, _, _, _, _, _, rfl, (h0.sub hs.old), (k0.sub hs.old)⟩ (by omega))), pu, trivial⟩
    rintro p6 x6 u6 hg6 -
    replace h0 := h0.sub hg6.1; replace h1 := h1.sub hg6.1; replace k0 := k0.sub hg6.1
    have hG6 := hG5.trans hg6
    refine next (g' := [(2, pt (p1 0) 0), (3, pt (p1 1) 0), (5, pt (p5 7) 0), (6, .int .i64 30), (16, .bool true)]) (bx' := [⟨p1 0, 33, [.bool s0, .slice A0 n0 c0, .bool t0, .slice D0 m0 e0]⟩, ⟨p1 1, 31, [.bool s1, .slice A1 n1 c1]⟩, ⟨p5 7, 31, [.bool false, .slice none 0 0]⟩]) (rw' := []) (by kernel_rfl) (by kernel_rfl) (by kernel_rfl) ?_
    refine tri_true rfl ?_
    refine tri_seq ?_
    refine tri_reg mixed [.con (.int .i64 30), .con (.bool true), .con (.bool true), .con (.agg #[.bool false, .slice none 0 0]), .con (.agg #[.bool false, .slice none 0 0]), .con (.bool true), .con (.bool true), .con (.bool true)] [4] [] [] ?_ (by decide) ?_ ?_ _ _
    · kernel_rfl
    · exact ⟨pu, pu, pu, ld 2 0 2 ty31, pu, cc fun f u w hs => (w12_eq ⟨_, _, _, _, rfl, ci_zero _⟩ ⟨_, _, _, _, rfl, ci_zero _⟩), pu, pu, trivial⟩
    rintro p7 x7 u7 hg7 -
    replace h0 := h0.sub hg7.1; replace h1 := h1.sub hg7.1; replace k0 := k0.sub hg7.1
    have hG7 := hG6.trans hg7
    refine next (g' := [(4, .bool true)]) (bx' := []) (rw' := []) (by kernel_rfl) (by kernel_rfl) (by kernel_rfl) ?_
    exact tri_ret (ret1 rfl (.bool true) rfl hG7 (rfl))
end Go.Proofs.Ytaagioghkicdkaa
