/- The number behind another one. -/
import Derived.Test.YtaagioghkicdkaaR06
set_option linter.unusedVariables false
set_option linter.unusedSimpArgs false
namespace Go.Proofs.Ytaagioghkicdkaa
open Go.RowKit Go.Proofs.YtaagioghkicdkaaW.PrintWords Mt
theorem fn_tq {P : Program} {f : Nat} {args : Array Value} {u : World} {q q' : Rat} {c : Value} (h : q = q') (H : Fn P f args u (Tup2 (fun u r => CQv u r q') (Is c))) : Fn P f args u (Tup2 (fun u r => CQv u r q) (Is c)) := by rw [h]; exact H
theorem rden_pos (q : Rat) : 0 < (q.den : Int) := by have := q.den_pos; omega
/-- The number behind x in zig-zag order about c. -/
def bhF (c : Rat) (x : Int) : Int := if c < (x : Rat) then Int.fdiv (c + c - (x : Rat)).num (c + c - (x : Rat)).den else Int.fdiv (c + c - (x : Rat)).num (c + c - (x : Rat)).den + 1
theorem sg_num {q : Rat} : 0 < sg q.num ↔ 0 < q := by
  rw [sgpos]
  have h := @Rat.num_nonneg (-q)
  rw [Rat.neg_num] at h
  refine ⟨fun h1 => ?_, fun h1 => ?_⟩
  · have : ¬ 0 ≤ -q := fun hh => by have := h.2 hh; omega
    grind
  · have : ¬ 0 ≤ -q.num := fun hh => by have := h.1 hh; grind
    omega
theorem cmp_q {a b c d : Int} (hb : 0 < b) (hd : 0 < d) : 0 < sgnc (a * d) (c * b) ↔ (c : Rat) / d < (a : Rat) / b := by
  have h1 : 0 < sgnc (a * d) (c * b) ↔ c * b < a * d := by
    rcases Int.lt_trichotomy (c * b) (a * d) with h | h | h
    · rw [sgnc_gt h]; exact ⟨fun _ => h, fun _ => by omega⟩
    · rw [sgnc_eq h.symm]; omega
    · rw [sgnc_lt h]; omega
  have hb' : (0 : Rat) < b := Rat.intCast_pos.2 hb
  have hd' : (0 : Rat) < d := Rat.intCast_pos.2 hd
  rw [h1, Rat.div_lt_iff hd', show (a : Rat) / b * d = (a * d : Rat) / b by rw [Rat.div_def, Rat.div_def, Rat.mul_assoc, Rat.mul_comm (b : Rat)⁻¹, ← Rat.mul_assoc], Rat.lt_div_iff hb', ← Rat.intCast_mul, ← Rat.intCast_mul, Rat.intCast_lt_intCast]

set_option maxRecDepth 100000 in
theorem r_Floor {u : World} {a b : Int} {k : Nat} {v0 : Value} (h0 : Qv u v0 a b k) (hk : k ≤ 137438953472) (hb : 0 < b) : Fn Try.prog 107 #[v0] u (Tup2 (fun u r => Cv u r (Int.fdiv a b)) (Is (.int .i64 0))) := by
  obtain ⟨s0, A0, n0, c0, t0, D0, m0, e0, rfl, h0, k0⟩ := h0
  refine fn_of (args := [_]) Try.func107 rfl (by show 1 ≤ 25; decide) ?_
  intro w0 hs0
  have hG0 := Gr.refl w0.heap.size u
  refine tri_seq ?_
  refine tri_reg mixed [.new 33 [.bool s0, .slice A0 n0 c0, .bool t0, .slice D0 m0 e0], .new 31 [.bool false, .slice none 0 0], .con (.int .i64 0)] [1, 2] [0, 1] [] ?_ (by decide) ?_ ?_ _ _
  · kernel_rfl
  · exact ⟨al, al, pu, trivial⟩
  rintro p1 x1 u1 hg1 -
  replace h0 := h0.sub hg1.1; replace k0 := k0.sub hg1.1
  have hG1 := hG0.trans hg1
  refine next (g' := [(1, pt (p1 0) 0), (2, pt (p1 1) 0)]) (bx' := [⟨p1 0, 33, [.bool s0, .slice A0 n0 c0, .bool t0, .slice D0 m0 e0]⟩, ⟨p1 1, 31, [.bool false, .slice none 0 0]⟩]) (rw' := []) (by kernel_rfl) (by kernel_rfl) (by kernel_rfl) ?_
  refine tri_seq ?_
  refine tri_seq ?_
  refine tri_reg mixed [.con (.agg #[.bool s0, .slice A0 n0 c0, .bool t0, .slice D0 m0 e0]), .opq (fun u r => Sl (dGq k) u r [(a, b)]), .con (.int .i64 0), .con (.int .i64 0)] [1, 2, 4] [0, 1] [] ?_ (by decide) ?_ ?_ _ _
  · kernel_rfl
  · exact ⟨ld 0 0 4 ty33, bsX (m := 1) (e := 33) (dGqk k) rfl (by decide) fun f u w hs => by exact ⟨[.bool s0, .slice A0 n0 c0, .bool t0, .slice D0 m0 e0], ⟨[.bool s0, .slice A0 n0 c0, .bool t0, .slice D0 m0 e0], _, rfl, ⟨_, _, _, _, _, _, _, _, rfl, (h0.sub hs.old), (k0.sub hs.old)⟩, rfl⟩, by kernel_rfl⟩, cc fun f u w hs => (r_valid (hs.opq 1 _ rfl rfl) (by omega) (by intro i hi; match i, hi with | 0, _ => exact hb)), pu, trivial⟩
  rintro p2 x2 u2 hg2 ⟨q1, -⟩
  replace h0 := h0.sub hg2.1; replace k0 := k0.sub hg2.1
  have hG2 := hG1.trans hg2
  refine next (g' := [(1, pt (p1 0) 0), (2, pt (p1 1) 0), (4, .int .i64 0)]) (bx' := [⟨p1 0, 33, [.bool s0, .slice A0 n0 c0, .bool t0, .slice D0 m0 e0]⟩, ⟨p1 1, 31, [.bool false, .slice none 0 0]⟩]) (rw' := []) (by kernel_rfl) (by kernel_rfl) (by kernel_rfl) ?_
  refine tri_seq ?_
  refine tri_reg mixed [.con (.int .i64 0), .con (.bool false)] [1, 2, 4, 12] [0, 1] [] ?_ (by decide) ?_ ?_ _ _
  · kernel_rfl
  · exact ⟨pu, pu, trivial⟩
  rintro p3 x3 u3 hg3 -
  replace h0 := h0.sub hg3.1; replace k0 := k0.sub hg3.1
  have hG3 := hG2.trans hg3
  refine next (g' := [(1, pt (p1 0) 0), (2, pt (p1 1) 0), (4, .int .i64 0), (12, .bool false)]) (bx' := [⟨p1 0, 33, [.bool s0, .slice A0 n0 c0, .bool t0, .slice D0 m0 e0]⟩, ⟨p1 1, 31, [.bool false, .slice none 0 0]⟩]) (rw' := []) (by kernel_rfl) (by kernel_rfl) (by kernel_rfl) ?_
  refine tri_false rfl ?_
  refine tri_skip ?_
  refine next rfl rfl rfl ?_
  refine tri_seq ?_
  refine tri_reg mixed [.con (pt (p1 0) 0), .con (.agg #[.bool s0, .slice A0 n0 c0]), .con (pt (p1 0) 2), .con (.agg #[.bool t0, .slice D0 m0 e0]), .opq (Tup3 (fun u r => Cv u r (Int.fdiv a b)) (fun u r => Cv u r (Int.fmod a b)) (Is (.int .i64 0))), .opq (Tup3 (fun u r => Cv u r (Int.fdiv a b)) (fun u r => Cv u r (Int.fmod a b)) (Is (.int .i64 0))), .opq (fun u r => Cv u r (Int.fdiv a b)), .opq (fun u r => Cv u r (Int.fmod a b)), .con (.int .i64 0), .new 31 [.bool false, .slice none 0 0], .new 31 [.bool false, .slice none 0 0], .sto ⟨11, 0, .op 6⟩, .sto ⟨12, 0, .op 7⟩, .con (.int .i64 0)] [2, 5] [1, 11] [] ?_ (by decide) ?_ ?_ _ _
  · kernel_rfl
  · exact ⟨pu, ld 0 0 2 ty31, pu, ld 0 2 2 ty31, ca (Tup3.mono (Cv.m _) (Cv.m _) (Is.mono _)) fun f u w hs => (z_Floor ⟨_, _, _, _, rfl, h0.sub hs.old⟩ ⟨_, _, _, _, rfl, k0.sub hs.old⟩ (by omega) (by omega) (by omega)), mv 4 (Tup3.mono (Cv.m _) (Cv.m _) (Is.mono _)), ex3a 5 (Cv.m _), ex3b 5 (Cv.m _), ex3c 5, al, al, sn 9 2 ty31 (fun f u w hs => kn rfl (Cv.flat (hs.opq 6 _ rfl rfl))), sn 10 2 ty31 (fun f u w hs => kn rfl (Cv.flat (hs.opq 7 _ rfl rfl))), pu, trivial⟩
  rintro p4 x4 u4 hg4 ⟨q4, q5, q6, q7, -⟩
  replace h0 := h0.sub hg4.1; replace k0 := k0.sub hg4.1
  have hG4 := hG3.trans hg4
  obtain ⟨s4_6, A4_6, n4_6, c4_6, e4_6, h4_6⟩ := q6; rw [fun_upd (i := 6) e4_6]
  obtain ⟨s4_7, A4_7, n4_7, c4_7, e4_7, h4_7⟩ := q7; rw [fun_upd (i := 7) e4_7]
  refine next (g' := [(2, pt (p1 1) 0), (5, pt (p4 9) 0)]) (bx' := [⟨p1 1, 31, [.bool false, .slice none 0 0]⟩, ⟨p4 9, 31, [.bool s4_6, .slice A4_6 n4_6 c4_6]⟩]) (rw' := []) (by kernel_rfl) (by kernel_rfl) (by kernel_rfl) ?_
  refine tri_seq ?_
  refine tri_reg mixed [.con (.agg #[.bool s4_6, .slice A4_6 n4_6 c4_6]), .sto ⟨0, 0, .op 0⟩, .con (.int .i64 0)] [2, 3] [0] [] ?_ (by decide) ?_ ?_ _ _
  · kernel_rfl
  · exact ⟨ld 1 0 2 ty31, st 0 0 2 ty31 (fun f u w hs => kn rfl ⟨rfl, rfl⟩), pu, trivial⟩
  rintro p5 x5 u5 hg5 -
  replace h4_6 := h4_6.sub hg5.1
  have hG5 := hG4.trans hg5
  refine next (g' := [(2, pt (p1 1) 0), (3, .int .i64 0)]) (bx' := [⟨p1 1, 31, [.bool s4_6, .slice A4_6 n4_6 c4_6]⟩]) (rw' := []) (by kernel_rfl) (by kernel_rfl) (by kernel_rfl) ?_
  exact tri_ret (ret2 rfl (.agg #[.bool s4_6, .slice A4_6 n4_6 c4_6]) (.int .i64 0) (rv_cell 0 (p1 1) 2 31 [.bool s4_6, .slice A4_6 n4_6 c4_6] rfl rfl ty31 rfl rfl rfl) rfl hG5 (⟨_, _, rfl, ⟨_, _, _, _, rfl, h4_6⟩, rfl⟩))

set_option maxRecDepth 100000 in
theorem r_Cmp {u : World} {a b c d : Int} {k : Nat} {v0 : Value} {v1 : Value} (h0 : Qv u v0 a b k) (h1 : Qv u v1 c d k) (hk : k ≤ 137438953472) (hb : 0 < b) (hd : 0 < d) : Fn Try.prog 108 #[v0, v1] u (Tup2 (Is (.int .i64 (sgnc (a * d) (c * b)))) (Is (.int .i64 0))) := by
  obtain ⟨s0, A0, n0, c0, t0, D0, m0, e0, rfl, h0, k0⟩ := h0
  obtain ⟨s1, A1, n1, c1, t1, D1, m1, e1, rfl, h1, k1⟩ := h1
  refine fn_of (args := [_, _]) Try.func108 rfl (by show 2 ≤ 25; decide) ?_
  intro w0 hs0
  have hG0 := Gr.refl w0.heap.size u
  refine tri_seq ?_
  refine tri_reg mixed [.new 33 [.bool s0, .slice A0 n0 c0, .bool t0, .slice D0 m0 e0], .new 33 [.bool s1, .slice A1 n1 c1, .bool t1, .slice D1 m1 e1], .con (.int .i64 0), .con (.int .i64 0)] [2, 3] [0, 1] [] ?_ (by decide) ?_ ?_ _ _
  · kernel_rfl
  · exact ⟨al, al, pu, pu, trivial⟩
  rintro p1 x1 u1 hg1 -
  replace h0 := h0.sub hg1.1; replace h1 := h1.sub hg1.1; replace k0 := k0.sub hg1.1; replace k1 := k1.sub hg1.1
  have hG1 := hG0.trans hg1
  refine next (g' := [(2, pt (p1 0) 0), (3, pt (p1 1) 0)]) (bx' := [⟨p1 0, 33, [.bool s0, .slice A0 n0 c0, .bool t0, .slice D0 m0 e0]⟩, ⟨p1 1, 33, [.bool s1, .slice A1 n1 c1, .bool t1, .slice D1 m1 e1]⟩]) (rw' := []) (by kernel_rfl) (by kernel_rfl) (by kernel_rfl) ?_
  refine tri_seq ?_
  refine tri_seq ?_
  refine tri_reg mixed [.con (.agg #[.bool s0, .slice A0 n0 c0, .bool t0, .slice D0 m0 e0]), .con (.agg #[.bool s1, .slice A1 n1 c1, .bool t1, .slice D1 m1 e1]), .opq (fun u r => Sl (dGq k) u r [(a, b), (c, d)]), .con (.int .i64 0), .con (.int .i64 0)] [2, 3, 6] [0, 1] [] ?_ (by decide) ?_ ?_ _ _
  · kernel_rfl
  · exact ⟨ld 0 0 4 ty33, ld 1 0 4 ty33, bsX (m := 2) (e := 33) (dGqk k) rfl (by decide) fun f u w hs => by exact ⟨[.bool s0, .slice A0 n0 c0, .bool t0, .slice D0 m0 e0, .bool s1, .slice A1 n1 c1, .bool t1, .slice D1 m1 e1], ⟨[.bool s0, .slice A0 n0 c0, .bool t0, .slice D0 m0 e0], _, rfl, ⟨_, _, _, _, _, _, _, _, rfl, (h0.sub hs.old), (k0.sub hs.old)⟩, ⟨[.bool s1, .slice A1 n1 c1, .bool t1, .slice D1 m1 e1], _, rfl, ⟨_, _, _, _, _, _, _, _, rfl, (h1.sub hs.old), (k1.sub hs.old)⟩, rfl⟩⟩, by kernel_rfl⟩, cc fun f u w hs => (r_valid (hs.opq 2 _ rfl rfl) (by omega) (by intro i hi; match i, hi with | 0, _ => exact hb | 1, _ => exact hd)), pu, trivial⟩
  rintro p2 x2 u2 hg2 ⟨q2, -⟩
  replace h0 := h0.sub hg2.1; replace h1 := h1.sub hg2.1; replace k0 := k0.sub hg2.1; replace k1 := k1.sub hg2.1
  have hG2 := hG1.trans hg2
  refine next (g' := [(2, pt (p1 0) 0), (3, pt (p1 1) 0), (6, .int .i64 0)]) (bx' := [⟨p1 0, 33, [.bool s0, .slice A0 n0 c0, .bool t0, .slice D0 m0 e0]⟩, ⟨p1 1, 33, [.bool s1, .slice A1 n1 c1, .bool t1, .slice D1 m1 e1]⟩]) (rw' := []) (by kernel_rfl) (by kernel_rfl) (by kernel_rfl) ?_
  refine tri_seq ?_
  refine tri_reg mixed [.con (.int .i64 0), .con (.bool false)] [2, 3, 6, 12] [0, 1] [] ?_ (by decide) ?_ ?_ _ _
  · kernel_rfl
  · exact ⟨pu, pu, trivial⟩
  rintro p3 x3 u3 hg3 -
  replace h0 := h0.sub hg3.1; replace h1 := h1.sub hg3.1; replace k0 := k0.sub hg3.1; replace k1 := k1.sub hg3.1
  have hG3 := hG2.trans hg3
  refine next (g' := [(2, pt (p1 0) 0), (3, pt (p1 1) 0), (6, .int .i64 0), (12, .bool false)]) (bx' := [⟨p1 0, 33, [.bool s0, .slice A0 n0 c0, .bool t0, .slice D0 m0 e0]⟩, ⟨p1 1, 33, [.bool s1, .slice A1 n1 c1, .bool t1, .slice D1 m1 e1]⟩]) (rw' := []) (by kernel_rfl) (by kernel_rfl) (by kernel_rfl) ?_
  refine tri_false rfl ?_
  refine tri_skip ?_
  refine next rfl rfl rfl ?_
  refine tri_seq ?_
  refine tri_reg mixed [.con (pt (p1 0) 0), .con (.agg #[.bool s0, .slice A0 n0 c0]), .con (pt (p1 1) 2), .con (.agg #[.bool t1, .slice D1 m1 e1]), .opq (fun u r => Cv u r (a * d)), .con (pt (p1 1) 0), .con (.agg #[.bool s1, .slice A1 n1 c1]), .con (pt (p1 0) 2), .con (.agg #[.bool t0, .slice D0 m0 e0]), .opq (fun u r => Cv u r (c * b)), .con (.int .i64 (sgnc (a * d) (c * b))), .con (.int .i64 (sgnc (a * d) (c * b))), .con (.int .i64 0)] [4, 5] [] [] ?_ (by decide) ?_ ?_ _ _
  · kernel_rfl
  · exact ⟨pu, ld 0 0 2 ty31, pu, ld 1 2 2 ty31, ca (Cv.m _) fun f u w hs => (z_Mul ⟨_, _, _, _, rfl, h0.sub hs.old⟩ ⟨_, _, _, _, rfl, k1.sub hs.old⟩ (by omega) (by omega)), pu, ld 1 0 2 ty31, pu, ld 0 2 2 ty31, ca (Cv.m _) fun f u w hs => (z_Mul ⟨_, _, _, _, rfl, h1.sub hs.old⟩ ⟨_, _, _, _, rfl, k0.sub hs.old⟩ (by omega) (by omega)), cc fun f u w hs => (z_Compare ((hs.opq 4 _ rfl rfl).iv (zl_mul h0.zl k1.zl)) ((hs.opq 9 _ rfl rfl).iv (zl_mul h1.zl k0.zl)) (by omega) (by omega)), pu, pu, trivial⟩
  rintro p4 x4 u4 hg4 ⟨q4, q9, -⟩
  replace h0 := h0.sub hg4.1; replace h1 := h1.sub hg4.1; replace k0 := k0.sub hg4.1; replace k1 := k1.sub hg4.1
  have hG4 := hG3.trans hg4
  refine next (g' := [(4, .int .i64 (sgnc (a * d) (c * b))), (5, .int .i64 0)]) (bx' := []) (rw' := []) (by kernel_rfl) (by kernel_rfl) (by kernel_rfl) ?_
  exact tri_ret (ret2 rfl (.int .i64 (sgnc (a * d) (c * b))) (.int .i64 0) rfl rfl hG4 (⟨_, _, rfl, rfl, rfl⟩))

set_option maxRecDepth 100000 in
theorem k_behind {u : World} {a b x : Int} {k : Nat} {v0 : Value} {v1 : Value} (h0 : Qv u v0 a b k) (h1 : Iv u v1 x k) (hk : k ≤ 34359738368) (hb : 0 < b) : Fn Try.prog 65 #[v0, v1] u (fun u r => Cv u r (bhF (((a : Int) : Rat) / ((b : Int) : Rat)) x)) := by
  obtain ⟨s0, A0, n0, c0, t0, D0, m0, e0, rfl, h0, k0⟩ := h0
  obtain ⟨s1, A1, n1, c1, rfl, h1⟩ := h1
  have hcc : 0 < sgnc ((x : Rat).num * b) (a * (((x : Rat).den : Int))) ↔ ((a : Int) : Rat) / ((b : Int) : Rat) < (x : Rat) := by rw [cmp_q (rden_pos _) hb, rat_of]
  refine fn_of (args := [_, _]) Try.func65 rfl (by show 2 ≤ 44; decide) ?_
  intro w0 hs0
  have hG0 := Gr.refl w0.heap.size u
  refine tri_seq ?_
  refine tri_reg mixed [.new 33 [.bool s0, .slice A0 n0 c0, .bool t0, .slice D0 m0 e0], .new 31 [.bool s1, .slice A1 n1 c1], .new 31 [.bool false, .slice none 0 0]] [2, 3, 4] [0, 1, 2] [] ?_ (by decide) ?_ ?_ _ _
  · kernel_rfl
  · exact ⟨al, al, al, trivial⟩
  rintro p1 x1 u1 hg1 -
  replace h0 := h0.sub hg1.1; replace h1 := h1.sub hg1.1; replace k0 := k0.sub hg1.1
  have hG1 := hG0.trans hg1
  refine next (g' := [(2, pt (p1 0) 0), (3, pt (p1 1) 0), (4, pt (p1 2) 0)]) (bx' := [⟨p1 0, 33, [.bool s0, .slice A0 n0 c0, .bool t0, .slice D0 m0 e0]⟩, ⟨p1 1, 31, [.bool s1, .slice A1 n1 c1]⟩, ⟨p1 2, 31, [.bool false, .slice none 0 0]⟩]) (rw' := []) (by kernel_rfl) (by kernel_rfl) (by kernel_rfl) ?_
  refine tri_seq ?_
  refine tri_reg mixed [.con (.agg #[.bool s0, .slice A0 n0 c0, .bool t0, .slice D0 m0 e0]), .con (.agg #[.bool s0, .slice A0 n0 c0, .bool t0, .slice D0 m0 e0]), .opq (Tup2 (fun u r => CQv u r ((((a : Int) : Rat) / ((b : Int) : Rat)) + (((a : Int) : Rat) / ((b : Int) : Rat)))) (Is (.int .i64 0))), .opq (Tup2 (fun u r => CQv u r ((((a : Int) : Rat) / ((b : Int) : Rat)) + (((a : Int) : Rat) / ((b : Int) : Rat)))) (Is (.int .i64 0))), .opq (fun u r => CQv u r ((((a : Int) : Rat) / ((b : Int) : Rat)) + (((a : Int) : Rat) / ((b : Int) : Rat)))), .con (.int .i64 0), .new 33 [.bool false, .slice none 0 0, .bool false, .slice none 0 0], .sto ⟨9, 0, .op 4⟩, .con (.int .i64 0)] [2, 3, 4, 5] [0, 1, 2, 9] [] ?_ (by decide) ?_ ?_ _ _
  · kernel_rfl
  · exact ⟨ld 0 0 4 ty33, ld 0 0 4 ty33, ca (Tup2.mono (CQv.m _) (Is.mono _)) fun f u w hs => (r_Add (Qv.mono (b' := (max k k)) ⟨_, _, _, _, _, _, _, _, rfl, (h0.sub hs.old), (k0.sub hs.old)⟩ (by omega)) (Qv.mono (b' := (max k k)) ⟨_, _, _, _, _, _, _, _, rfl, (h0.sub hs.old), (k0.sub hs.old)⟩ (by omega)) (by omega) (by omega) (by omega)), mv 2 (Tup2.mono (CQv.m _) (Is.mono _)), ex2a 3 (CQv.m _), ex2c 3, al, sn 6 4 ty33 (fun f u w hs => kn rfl (CQv.flat (hs.opq 4 _ rfl rfl))), pu, trivial⟩
  rintro p2 x2 u2 hg2 ⟨q2, q3, q4, -⟩
  replace h0 := h0.sub hg2.1; replace h1 := h1.sub hg2.1; replace k0 := k0.sub hg2.1
  have hG2 := hG1.trans hg2
  obtain ⟨s2_4, A2_4, n2_4, c2_4, t2_4, D2_4, m2_4, d2_4, e2_4, h2_4, k2_4⟩ := q4; rw [fun_upd (i := 4) e2_4]
  refine next (g' := [(2, pt (p1 0) 0), (3, pt (p1 1) 0), (4, pt (p1 2) 0), (5, pt (p2 6) 0)]) (bx' := [⟨p1 0, 33, [.bool s0, .slice A0 n0 c0, .bool t0, .slice D0 m0 e0]⟩, ⟨p1 1, 31, [.bool s1, .slice A1 n1 c1]⟩, ⟨p1 2, 31, [.bool false, .slice none 0 0]⟩, ⟨p2 6, 33, [.bool s2_4, .slice A2_4 n2_4 c2_4, .bool t2_4, .slice D2_4 m2_4 d2_4]⟩]) (rw' := []) (by kernel_rfl) (by kernel_rfl) (by kernel_rfl) ?_
  refine tri_seq ?_
  refine tri_reg mixed [.con (.agg #[.bool s2_4, .slice A2_4 n2_4 c2_4, .bool t2_4, .slice D2_4 m2_4 d2_4]), .con (.agg #[.bool s1, .slice A1 n1 c1]), .opq (fun u r => CQv u r ((x : Int) : Rat)), .opq (Tup2 (fun u r => CQv u r (((((a : Int) : Rat) / ((b : Int) : Rat)) + (((a : Int) : Rat) / ((b : Int) : Rat))) - ((x : Int) : Rat))) (Is (.int .i64 0))), .opq (Tup2 (fun u r => CQv u r (((((a : Int) : Rat) / ((b : Int) : Rat)) + (((a : Int) : Rat) / ((b : Int) : Rat))) - ((x : Int) : Rat))) (Is (.int .i64 0))), .opq (fun u r => CQv u r (((((a : Int) : Rat) / ((b : Int) : Rat)) + (((a : Int) : Rat) / ((b : Int) : Rat))) - ((x : Int) : Rat))), .con (.int .i64 0), .new 33 [.bool false, .slice none 0 0, .bool false, .slice none 0 0], .sto ⟨11, 0, .op 5⟩, .con (.int .i64 0)] [2, 3, 4, 7] [0, 1, 2, 11] [] ?_ (by decide) ?_ ?_ _ _
  · kernel_rfl
  · exact ⟨ld 3 0 4 ty33, ld 1 0 2 ty31, ca (CQv.m _) fun f u w hs => (r_Of ⟨_, _, _, _, rfl, h1.sub hs.old⟩ (by omega)), ca (Tup2.mono (CQv.m _) (Is.mono _)) fun f u w hs => (fn_tq (by simp only [rat_of]) (r_Sub (Qv.mono (b' := (max (k + k + 1) (max k 1))) ⟨_, _, _, _, _, _, _, _, rfl, (((h2_4.sub hs.old)).gi (zl_num (qb_add (qb_div0 h0.zl k0.zl (by omega)) (qb_div0 h0.zl k0.zl (by omega))))), (((k2_4.sub hs.old)).gi (zl_den (qb_add (qb_div0 h0.zl k0.zl (by omega)) (qb_div0 h0.zl k0.zl (by omega)))))⟩ (by omega)) (Qv.mono (b' := (max (k + k + 1) (max k 1))) ((hs.opq 2 _ rfl rfl).qv (qb_of h1.zl)) (by omega)) (by omega) (rden_pos _) (rden_pos _))), mv 3 (Tup2.mono (CQv.m _) (Is.mono _)), ex2a 4 (CQv.m _), ex2c 4, al, sn 7 4 ty33 (fun f u w hs => kn rfl (CQv.flat (hs.opq 5 _ rfl rfl))), pu, trivial⟩
  rintro p3 x3 u3 hg3 ⟨q2, q3, q4, q5, -⟩
  replace h0 := h0.sub hg3.1; replace h1 := h1.sub hg3.1; replace h2_4 := h2_4.sub hg3.1; replace k0 := k0.sub hg3.1; replace k2_4 := k2_4.sub hg3.1
  have hG3 := hG2.trans hg3
  obtain ⟨s3_5, A3_5, n3_5, c3_5, t3_5, D3_5, m3_5, d3_5, e3_5, h3_5, k3_5⟩ := q5; rw [fun_upd (i := 5) e3_5]
  refine next (g' := [(2, pt (p1 0) 0), (3, pt (p1 1) 0), (4, pt (p1 2) 0), (7, pt (p3 7) 0)]) (bx' := [⟨p1 0, 33, [.bool s0, .slice A0 n0 c0, .bool t0, .slice D0 m0 e0]⟩, ⟨p1 1, 31, [.bool s1, .slice A1 n1 c1]⟩, ⟨p1 2, 31, [.bool false, .slice none 0 0]⟩, ⟨p3 7, 33, [.bool s3_5, .slice A3_5 n3_5 c3_5, .bool t3_5, .slice D3_5 m3_5 d3_5]⟩]) (rw' := []) (by kernel_rfl) (by kernel_rfl) (by kernel_rfl) ?_
  refine tri_seq ?_
  refine tri_reg mixed [.con (.agg #[.bool s3_5, .slice A3_5 n3_5 c3_5, .bool t3_5, .slice D3_5 m3_5 d3_5]), .opq (Tup2 (fun u r => Cv u r (Int.fdiv (((((((a : Int) : Rat) / ((b : Int) : Rat)) + (((a : Int) : Rat) / ((b : Int) : Rat))) - ((x : Int) : Rat))).num) (((((((a : Int) : Rat) / ((b : Int) : Rat)) + (((a : Int) : Rat) / ((b : Int) : Rat))) - ((x : Int) : Rat))).den : Int))) (Is (.int .i64 0))), .opq (Tup2 (fun u r => Cv u r (Int.fdiv (((((((a : Int) : Rat) / ((b : Int) : Rat)) + (((a : Int) : Rat) / ((b : Int) : Rat))) - ((x : Int) : Rat))).num) (((((((a : Int) : Rat) / ((b : Int) : Rat)) + (((a : Int) : Rat) / ((b : Int) : Rat))) - ((x : Int) : Rat))).den : Int))) (Is (.int .i64 0))), .opq (fun u r => Cv u r (Int.fdiv (((((((a : Int) : Rat) / ((b : Int) : Rat)) + (((a : Int) : Rat) / ((b : Int) : Rat))) - ((x : Int) : Rat))).num) (((((((a : Int) : Rat) / ((b : Int) : Rat)) + (((a : Int) : Rat) / ((b : Int) : Rat))) - ((x : Int) : Rat))).den : Int))), .con (.int .i64 0), .new 31 [.bool false, .slice none 0 0], .sto ⟨9, 0, .op 3⟩, .con (.int .i64 0)] [2, 3, 4, 9] [0, 1, 2, 9] [] ?_ (by decide) ?_ ?_ _ _
  · kernel_rfl
  · exact ⟨ld 3 0 4 ty33, ca (Tup2.mono (Cv.m _) (Is.mono _)) fun f u w hs => (r_Floor ⟨_, _, _, _, _, _, _, _, rfl, (((h3_5.sub hs.old)).gi (zl_num (qb_sub (qb_add (qb_div0 h0.zl k0.zl (by omega)) (qb_div0 h0.zl k0.zl (by omega))) (qb_of h1.zl)))), (((k3_5.sub hs.old)).gi (zl_den (qb_sub (qb_add (qb_div0 h0.zl k0.zl (by omega)) (qb_div0 h0.zl k0.zl (by omega))) (qb_of h1.zl))))⟩ (by omega) (rden_pos _)), mv 1 (Tup2.mono (Cv.m _) (Is.mono _)), ex2a 2 (Cv.m _), ex2c 2, al, sn 5 2 ty31 (fun f u w hs => kn rfl (Cv.flat (hs.opq 3 _ rfl rfl))), pu, trivial⟩
  rintro p4 x4 u4 hg4 ⟨q1, q2, q3, -⟩
  replace h0 := h0.sub hg4.1; replace h1 := h1.sub hg4.1; replace h3_5 := h3_5.sub hg4.1; replace k0 := k0.sub hg4.1; replace k3_5 := k3_5.sub hg4.1
  have hG4 := hG3.trans hg4
  obtain ⟨s4_3, A4_3, n4_3, c4_3, e4_3, h4_3⟩ := q3; rw [fun_upd (i := 3) e4_3]
  refine next (g' := [(2, pt (p1 0) 0), (3, pt (p1 1) 0), (4, pt (p1 2) 0), (9, pt (p4 5) 0)]) (bx' := [⟨p1 0, 33, [.bool s0, .slice A0 n0 c0, .bool t0, .slice D0 m0 e0]⟩, ⟨p1 1, 31, [.bool s1, .slice A1 n1 c1]⟩, ⟨p1 2, 31, [.bool false, .slice none 0 0]⟩, ⟨p4 5, 31, [.bool s4_3, .slice A4_3 n4_3 c4_3]⟩]) (rw' := []) (by kernel_rfl) (by kernel_rfl) (by kernel_rfl) ?_
  refine tri_seq ?_
  refine tri_seq ?_
  refine tri_reg mixed [.con (.agg #[.bool s1, .slice A1 n1 c1]), .opq (fun u r => CQv u r ((x : Int) : Rat)), .con (.agg #[.bool s0, .slice A0 n0 c0, .bool t0, .slice D0 m0 e0]), .opq (Tup2 (Is (.int .i64 (sgnc (((((x : Int) : Rat)).num) * b) (a * ((((x : Int) : Rat)).den : Int))))) (Is (.int .i64 0))), .opq (Tup2 (Is (.int .i64 (sgnc (((((x : Int) : Rat)).num) * b) (a * ((((x : Int) : Rat)).den : Int))))) (Is (.int .i64 0))), .con (.int .i64 (sgnc (((((x : Int) : Rat)).num) * b) (a * ((((x : Int) : Rat)).den : Int)))), .con (.int .i64 0), .con (.int .i64 (sgnc (((((x : Int) : Rat)).num) * b) (a * ((((x : Int) : Rat)).den : Int)))), .con (.int .i64 0)] [4, 9, 11] [2, 3] [] ?_ (by decide) ?_ ?_ _ _
  · kernel_rfl
  · exact ⟨ld 1 0 2 ty31, ca (CQv.m _) fun f u w hs => (r_Of ⟨_, _, _, _, rfl, h1.sub hs.old⟩ (by omega)), ld 0 0 4 ty33, ca (Tup2.mono (Is.mono _) (Is.mono _)) fun f u w hs => (r_Cmp (Qv.mono (b' := (max (max k 1) k)) ((hs.opq 1 _ rfl rfl).qv (qb_of h1.zl)) (by omega)) (Qv.mono (b' := (max (max k 1) k)) ⟨_, _, _, _, _, _, _, _, rfl, (h0.sub hs.old), (k0.sub hs.old)⟩ (by omega)) (by omega) (rden_pos _) (by omega)), mv 3 (Tup2.mono (Is.mono _) (Is.mono _)), ex2d 4, ex2c 4, pu, pu, trivial⟩
  rintro p5 x5 u5 hg5 ⟨q1, q3, q4, -⟩
  replace h0 := h0.sub hg5.1; replace h1 := h1.sub hg5.1; replace h4_3 := h4_3.sub hg5.1; replace k0 := k0.sub hg5.1
  have hG5 := hG4.trans hg5
  refine next (g' := [(4, pt (p1 2) 0), (9, pt (p4 5) 0), (11, .int .i64 (sgnc (((((x : Int) : Rat)).num) * b) (a * ((((x : Int) : Rat)).den : Int))))]) (bx' := [⟨p1 2, 31, [.bool false, .slice none 0 0]⟩, ⟨p4 5, 31, [.bool s4_3, .slice A4_3 n4_3 c4_3]⟩]) (rw' := []) (by kernel_rfl) (by kernel_rfl) (by kernel_rfl) ?_
  refine tri_seq ?_
  refine tri_reg mixed [.con (.int .i64 (sgnc (((((x : Int) : Rat)).num) * b) (a * ((((x : Int) : Rat)).den : Int)))), .con (.bool (decide (0 < (sgnc (((((x : Int) : Rat)).num) * b) (a * ((((x : Int) : Rat)).den : Int))))))] [4, 9, 39] [0, 1] [] ?_ (by decide) ?_ ?_ _ _
  · kernel_rfl
  · exact ⟨pu, pu, trivial⟩
  rintro p6 x6 u6 hg6 -
  replace h4_3 := h4_3.sub hg6.1
  have hG6 := hG5.trans hg6
  refine next (g' := [(4, pt (p1 2) 0), (9, pt (p4 5) 0), (39, .bool (decide (0 < (sgnc (((((x : Int) : Rat)).num) * b) (a * ((((x : Int) : Rat)).den : Int))))))]) (bx' := [⟨p1 2, 31, [.bool false, .slice none 0 0]⟩, ⟨p4 5, 31, [.bool s4_3, .slice A4_3 n4_3 c4_3]⟩]) (rw' := []) (by kernel_rfl) (by kernel_rfl) (by kernel_rfl) ?_
  refine tri_cond (b := (decide (0 < (sgnc (((((x : Int) : Rat)).num) * b) (a * ((((x : Int) : Rat)).den : Int)))))) rfl (fun hc => ?_) (fun hc => ?_)
  · replace hc := of_decide_eq_true hc
    refine tri_seq ?_
    refine tri_reg mixed [.con (.agg #[.bool s4_3, .slice A4_3 n4_3 c4_3]), .sto ⟨0, 0, .op 0⟩] [4] [0] [] ?_ (by decide) ?_ ?_ _ _
    · kernel_rfl
    · exact ⟨ld 1 0 2 ty31, st 0 0 2 ty31 (fun f u w hs => kn rfl ⟨rfl, rfl⟩), trivial⟩
    rintro p7 x7 u7 hg7 -
    replace h4_3 := h4_3.sub hg7.1
    have hG7 := hG6.trans hg7
    refine next (g' := [(4, pt (p1 2) 0)]) (bx' := [⟨p1 2, 31, [.bool s4_3, .slice A4_3 n4_3 c4_3]⟩]) (rw' := []) (by kernel_rfl) (by kernel_rfl) (by kernel_rfl) ?_
    exact tri_ret (ret1 rfl (.agg #[.bool s4_3, .slice A4_3 n4_3 c4_3]) (rv_cell 0 (p1 2) 2 31 [.bool s4_3, .slice A4_3 n4_3 c4_3] rfl rfl ty31 rfl rfl rfl) hG7 (⟨_, _, _, _, rfl, by rw [bhF, if_pos (hcc.1 hc)]; exact h4_3⟩))
  · replace hc := of_decide_eq_false hc
    refine tri_skip ?_
    refine next rfl rfl rfl ?_
    refine tri_seq ?_
    refine tri_reg mixed [.con (.agg #[.bool s4_3, .slice A4_3 n4_3 c4_3]), .opq (fun u r => Cv u r 1), .opq (fun u r => Cv u r ((Int.fdiv (((((((a : Int) : Rat) / ((b : Int) : Rat)) + (((a : Int) : Rat) / ((b : Int) : Rat))) - ((x : Int) : Rat))).num) (((((((a : Int) : Rat) / ((b : Int) : Rat)) + (((a : Int) : Rat) / ((b : Int) : Rat))) - ((x : Int) : Rat))).den : Int)) + 1)), .sto ⟨0, 0, .op 2⟩] [4] [0] [] ?_ (by decide) ?_ ?_ _ _
    · kernel_rfl
    · exact ⟨ld 1 0 2 ty31, ca (Cv.m _) fun f u w hs => (z_Of (by omega) (by omega)), ca (Cv.m _) fun f u w hs => (z_Add ⟨_, _, _, _, rfl, (h4_3.sub hs.old).gi (zl_fdiv _ (zl_num (qb_sub (qb_add (qb_div0 h0.zl k0.zl (by omega)) (qb_div0 h0.zl k0.zl (by omega))) (qb_of h1.zl))))⟩ ((hs.opq 1 _ rfl rfl).iv (zl_of (by omega) (by omega))) (by omega) (by omega)), st 0 0 2 ty31 (fun f u w hs => kn rfl (Cv.flat (hs.opq 2 _ rfl rfl))), trivial⟩
    rintro p8 x8 u8 hg8 ⟨q1, q2, -⟩
    replace h4_3 := h4_3.sub hg8.1
    have hG8 := hG6.trans hg8
    obtain ⟨s8_2, A8_2, n8_2, c8_2, e8_2, h8_2⟩ := q2; rw [fun_upd (i := 2) e8_2]
    refine next (g' := [(4, pt (p1 2) 0)]) (bx' := [⟨p1 2, 31, [.bool s8_2, .slice A8_2 n8_2 c8_2]⟩]) (rw' := []) (by kernel_rfl) (by kernel_rfl) (by kernel_rfl) ?_
    exact tri_ret (ret1 rfl (.agg #[.bool s8_2, .slice A8_2 n8_2 c8_2]) (rv_cell 0 (p1 2) 2 31 [.bool s8_2, .slice A8_2 n8_2 c8_2] rfl rfl ty31 rfl rfl rfl) hG8 (⟨_, _, _, _, rfl, by rw [bhF, if_neg (fun h => hc (hcc.2 h))]; exact h8_2⟩))

set_option maxRecDepth 100000 in
theorem r12_Behind {u : World} {a b x : Int} {k : Nat} {v0 : Value} {v1 : Value} (h0 : Qv u v0 a b k) (h1 : Iv u v1 x k) (hk : k ≤ 34359738368) (hb : 0 < b) : Fn Try.prog 29 #[v0, v1] u (fun u r => Cv u r (bhF (((a : Int) : Rat) / ((b : Int) : Rat)) x)) := by
  obtain ⟨s0, A0, n0, c0, t0, D0, m0, e0, rfl, h0, k0⟩ := h0
  obtain ⟨s1, A1, n1, c1, rfl, h1⟩ := h1
  have h2c : ((2 : Int) : Rat) * (((a : Int) : Rat) / ((b : Int) : Rat)) = ((a : Int) : Rat) / ((b : Int) : Rat) + ((a : Int) : Rat) / ((b : Int) : Rat) := by generalize ((a : Int) : Rat) / ((b : Int) : Rat) = c; grind
  have hcc : 0 < sg ((((x : Int) : Rat)) - (((a : Int) : Rat) / ((b : Int) : Rat))).num ↔ ((a : Int) : Rat) / ((b : Int) : Rat) < (x : Rat) := by rw [sg_num]; generalize ((a : Int) : Rat) / ((b : Int) : Rat) = c; grind
  refine fn_of (args := [_, _]) Try.func29 rfl (by show 2 ≤ 25; decide) ?_
  intro w0 hs0
  have hG0 := Gr.refl w0.heap.size u
  refine tri_seq ?_
  refine tri_reg mixed [.new 33 [.bool s0, .slice A0 n0 c0, .bool t0, .slice D0 m0 e0], .new 31 [.bool s1, .slice A1 n1 c1], .new 31 [.bool false, .slice none 0 0]] [2, 3, 4] [0, 1, 2] [] ?_ (by decide) ?_ ?_ _ _
  · kernel_rfl
  · exact ⟨al, al, al, trivial⟩
  rintro p1 x1 u1 hg1 -
  replace h0 := h0.sub hg1.1; replace h1 := h1.sub hg1.1; replace k0 := k0.sub hg1.1
  have hG1 := hG0.trans hg1
  refine next (g' := [(2, pt (p1 0) 0), (3, pt (p1 1) 0), (4, pt (p1 2) 0)]) (bx' := [⟨p1 0, 33, [.bool s0, .slice A0 n0 c0, .bool t0, .slice D0 m0 e0]⟩, ⟨p1 1, 31, [.bool s1, .slice A1 n1 c1]⟩, ⟨p1 2, 31, [.bool false, .slice none 0 0]⟩]) (rw' := []) (by kernel_rfl) (by kernel_rfl) (by kernel_rfl) ?_
  refine tri_seq ?_
  refine tri_reg mixed [.opq (fun u r => Cv u r 2), .opq (fun u r => CQv u r ((2 : Int) : Rat)), .new 33 [.bool false, .slice none 0 0, .bool false, .slice none 0 0], .sto ⟨5, 0, .op 1⟩] [2, 3, 4, 5] [0, 1, 2, 5] [] ?_ (by decide) ?_ ?_ _ _
  · kernel_rfl
  · exact ⟨ca (Cv.m _) fun f u w hs => (r02_Of (by omega) (by omega)), ca (CQv.m _) fun f u w hs => (r03_Of ((hs.opq 0 _ rfl rfl).iv (zl_of (by omega) (by omega))) (by omega)), al, sn 2 4 ty33 (fun f u w hs => kn rfl (CQv.flat (hs.opq 1 _ rfl rfl))), trivial⟩
  rintro p2 x2 u2 hg2 ⟨q0, q1, -⟩
  replace h0 := h0.sub hg2.1; replace h1 := h1.sub hg2.1; replace k0 := k0.sub hg2.1
  have hG2 := hG1.trans hg2
  obtain ⟨s2_1, A2_1, n2_1, c2_1, t2_1, D2_1, m2_1, d2_1, e2_1, h2_1, k2_1⟩ := q1; rw [fun_upd (i := 1) e2_1]
  refine next (g' := [(2, pt (p1 0) 0), (3, pt (p1 1) 0), (4, pt (p1 2) 0), (5, pt (p2 2) 0)]) (bx' := [⟨p1 0, 33, [.bool s0, .slice A0 n0 c0, .bool t0, .slice D0 m0 e0]⟩, ⟨p1 1, 31, [.bool s1, .slice A1 n1 c1]⟩, ⟨p1 2, 31, [.bool false, .slice none 0 0]⟩, ⟨p2 2, 33, [.bool s2_1, .slice A2_1 n2_1 c2_1, .bool t2_1, .slice D2_1 m2_1 d2_1]⟩]) (rw' := []) (by kernel_rfl) (by kernel_rfl) (by kernel_rfl) ?_
  refine tri_seq ?_
  refine tri_reg mixed [.con (.agg #[.bool s2_1, .slice A2_1 n2_1 c2_1, .bool t2_1, .slice D2_1 m2_1 d2_1]), .con (.agg #[.bool s0, .slice A0 n0 c0, .bool t0, .slice D0 m0 e0]), .opq (fun u r => CQv u r (((2 : Int) : Rat) * (((a : Int) : Rat) / ((b : Int) : Rat)))), .con (.agg #[.bool s1, .slice A1 n1 c1]), .opq (fun u r => CQv u r ((x : Int) : Rat)), .opq (fun u r => CQv u r ((((2 : Int) : Rat) * (((a : Int) : Rat) / ((b : Int) : Rat))) - ((x : Int) : Rat))), .opq (fun u r => Cv u r (Int.fdiv ((((((2 : Int) : Rat) * (((a : Int) : Rat) / ((b : Int) : Rat))) - ((x : Int) : Rat))).num) ((((((2 : Int) : Rat) * (((a : Int) : Rat) / ((b : Int) : Rat))) - ((x : Int) : Rat))).den : Int))), .new 31 [.bool false, .slice none 0 0], .sto ⟨11, 0, .op 6⟩] [2, 3, 4, 6] [0, 1, 2, 11] [] ?_ (by decide) ?_ ?_ _ _
  · kernel_rfl
  · exact ⟨ld 3 0 4 ty33, ld 0 0 4 ty33, ca (CQv.m _) fun f u w hs => (fn_cq (by simp only [rat_of]) (r03_Mul ⟨_, _, _, _, _, _, _, _, rfl, (((h2_1.sub hs.old)).gi (zl_num (qb_of (zl_of (by omega) (by omega))))), (((k2_1.sub hs.old)).gi (zl_den (qb_of (zl_of (by omega) (by omega)))))⟩ ⟨_, _, _, _, _, _, _, _, rfl, (h0.sub hs.old), (k0.sub hs.old)⟩ (by omega) (by omega) (rden_nz _) (by omega))), ld 1 0 2 ty31, ca (CQv.m _) fun f u w hs => (r03_Of ⟨_, _, _, _, rfl, h1.sub hs.old⟩ (by omega)), ca (CQv.m _) fun f u w hs => (fn_cq (by simp only [rat_of]) (r03_Sub ((hs.opq 2 _ rfl rfl).qv (qb_mul (qb_of (zl_of (by omega) (by omega))) (qb_div0 h0.zl k0.zl (by omega)))) ((hs.opq 4 _ rfl rfl).qv (qb_of h1.zl)) (by omega) (by omega) (rden_nz _) (rden_nz _))), ca (Cv.m _) fun f u w hs => (r03_Floor ((hs.opq 5 _ rfl rfl).qv (qb_sub (qb_mul (qb_of (zl_of (by omega) (by omega))) (qb_div0 h0.zl k0.zl (by omega))) (qb_of h1.zl))) (by omega) (rden_nz _)), al, sn 7 2 ty31 (fun f u w hs => kn rfl (Cv.flat (hs.opq 6 _ rfl rfl))), trivial⟩
  rintro p3 x3 u3 hg3 ⟨q2, q4, q5, q6, -⟩
  replace h0 := h0.sub hg3.1; replace h1 := h1.sub hg3.1; replace h2_1 := h2_1.sub hg3.1; replace k0 := k0.sub hg3.1; replace k2_1 := k2_1.sub hg3.1
  have hG3 := hG2.trans hg3
  obtain ⟨s3_6, A3_6, n3_6, c3_6, e3_6, h3_6⟩ := q6; rw [fun_upd (i := 6) e3_6]
  refine next (g' := [(2, pt (p1 0) 0), (3, pt (p1 1) 0), (4, pt (p1 2) 0), (6, pt (p3 7) 0)]) (bx' := [⟨p1 0, 33, [.bool s0, .slice A0 n0 c0, .bool t0, .slice D0 m0 e0]⟩, ⟨p1 1, 31, [.bool s1, .slice A1 n1 c1]⟩, ⟨p1 2, 31, [.bool false, .slice none 0 0]⟩, ⟨p3 7, 31, [.bool s3_6, .slice A3_6 n3_6 c3_6]⟩]) (rw' := []) (by kernel_rfl) (by kernel_rfl) (by kernel_rfl) ?_
  refine tri_seq ?_
  refine tri_seq ?_
  refine tri_reg mixed [.con (.agg #[.bool s1, .slice A1 n1 c1]), .opq (fun u r => CQv u r ((x : Int) : Rat)), .con (.agg #[.bool s0, .slice A0 n0 c0, .bool t0, .slice D0 m0 e0]), .con (.int .i64 (sg (((x : Int) : Rat) - (((a : Int) : Rat) / ((b : Int) : Rat))).num)), .con (.bool (decide (0 < (sg (((x : Int) : Rat) - (((a : Int) : Rat) / ((b : Int) : Rat))).num))))] [4, 6, 20] [2, 3] [] ?_ (by decide) ?_ ?_ _ _
  · kernel_rfl
  · exact ⟨ld 1 0 2 ty31, ca (CQv.m _) fun f u w hs => (r03_Of ⟨_, _, _, _, rfl, h1.sub hs.old⟩ (by omega)), ld 0 0 4 ty33, cc fun f u w hs => (fn_is2 (by simp only [rat_of]) (r03_Cmp ((hs.opq 1 _ rfl rfl).qv (qb_of h1.zl)) ⟨_, _, _, _, _, _, _, _, rfl, (h0.sub hs.old), (k0.sub hs.old)⟩ (by omega) (by omega) (rden_nz _) (by omega))), pu, trivial⟩
  rintro p4 x4 u4 hg4 ⟨q1, -⟩
  replace h0 := h0.sub hg4.1; replace h1 := h1.sub hg4.1; replace h3_6 := h3_6.sub hg4.1; replace k0 := k0.sub hg4.1
  have hG4 := hG3.trans hg4
  refine next (g' := [(4, pt (p1 2) 0), (6, pt (p3 7) 0), (20, .bool (decide (0 < (sg (((x : Int) : Rat) - (((a : Int) : Rat) / ((b : Int) : Rat))).num))))]) (bx' := [⟨p1 2, 31, [.bool false, .slice none 0 0]⟩, ⟨p3 7, 31, [.bool s3_6, .slice A3_6 n3_6 c3_6]⟩]) (rw' := []) (by kernel_rfl) (by kernel_rfl) (by kernel_rfl) ?_
  refine tri_cond (b := (decide (0 < (sg (((x : Int) : Rat) - (((a : Int) : Rat) / ((b : Int) : Rat))).num)))) rfl (fun hc => ?_) (fun hc => ?_)
  · replace hc := of_decide_eq_true hc
    refine tri_seq ?_
    refine tri_reg mixed [.con (.agg #[.bool s3_6, .slice A3_6 n3_6 c3_6]), .sto ⟨0, 0, .op 0⟩] [4] [0] [] ?_ (by decide) ?_ ?_ _ _
    · kernel_rfl
    · exact ⟨ld 1 0 2 ty31, st 0 0 2 ty31 (fun f u w hs => kn rfl ⟨rfl, rfl⟩), trivial⟩
    rintro p5 x5 u5 hg5 -
    replace h3_6 := h3_6.sub hg5.1
    have hG5 := hG4.trans hg5
    refine next (g' := [(4, pt (p1 2) 0)]) (bx' := [⟨p1 2, 31, [.bool s3_6, .slice A3_6 n3_6 c3_6]⟩]) (rw' := []) (by kernel_rfl) (by kernel_rfl) (by kernel_rfl) ?_
    exact tri_ret (ret1 rfl (.agg #[.bool s3_6, .slice A3_6 n3_6 c3_6]) (rv_cell 0 (p1 2) 2 31 [.bool s3_6, .slice A3_6 n3_6 c3_6] rfl rfl ty31 rfl rfl rfl) hG5 (⟨_, _, _, _, rfl, by rw [bhF, if_pos (hcc.1 hc)]; have := h3_6; rw [h2c] at this; exact this⟩))
  · replace hc := of_decide_eq_false hc
    refine tri_skip ?_
    refine next rfl rfl rfl ?_
    refine tri_seq ?_
    refine tri_reg mixed [.con (.agg #[.bool s3_6, .slice A3_6 n3_6 c3_6]), .opq (fun u r => Cv u r 1), .opq (fun u r => Cv u r ((Int.fdiv ((((((2 : Int) : Rat) * (((a : Int) : Rat) / ((b : Int) : Rat))) - ((x : Int) : Rat))).num) ((((((2 : Int) : Rat) * (((a : Int) : Rat) / ((b : Int) : Rat))) - ((x : Int) : Rat))).den : Int)) + 1)), .sto ⟨0, 0, .op 2⟩] [4] [0] [] ?_ (by decide) ?_ ?_ _ _
    · kernel_rfl
    · exact ⟨ld 1 0 2 ty31, ca (Cv.m _) fun f u w hs => (r02_Of (by omega) (by omega)), ca (Cv.m _) fun f u w hs => (r02_Add ⟨_, _, _, _, rfl, (h3_6.sub hs.old).gi (zl_fdiv _ (zl_num (qb_sub (qb_mul (qb_of (zl_of (by omega) (by omega))) (qb_div0 h0.zl k0.zl (by omega))) (qb_of h1.zl))))⟩ ((hs.opq 1 _ rfl rfl).iv (zl_of (by omega) (by omega))) (by omega) (by omega)), st 0 0 2 ty31 (fun f u w hs => kn rfl (Cv.flat (hs.opq 2 _ rfl rfl))), trivial⟩
    rintro p6 x6 u6 hg6 ⟨q1, q2, -⟩
    replace h3_6 := h3_6.sub hg6.1
    have hG6 := hG4.trans hg6
    obtain ⟨s6_2, A6_2, n6_2, c6_2, e6_2, h6_2⟩ := q2; rw [fun_upd (i := 2) e6_2]
    refine next (g' := [(4, pt (p1 2) 0)]) (bx' := [⟨p1 2, 31, [.bool s6_2, .slice A6_2 n6_2 c6_2]⟩]) (rw' := []) (by kernel_rfl) (by kernel_rfl) (by kernel_rfl) ?_
    exact tri_ret (ret1 rfl (.agg #[.bool s6_2, .slice A6_2 n6_2 c6_2]) (rv_cell 0 (p1 2) 2 31 [.bool s6_2, .slice A6_2 n6_2 c6_2] rfl rfl ty31 rfl rfl rfl) hG6 (⟨_, _, _, _, rfl, by rw [bhF, if_neg (fun h => hc (hcc.2 h))]; have := h6_2; rw [h2c] at this; exact this⟩))

set_option maxRecDepth 100000 in
theorem k_Behind {u : World} {a b x : Int} {k : Nat} {v0 : Value} {v1 : Value} (h0 : Qv u v0 a b k) (h1 : Iv u v1 x k) (hk : k ≤ 34359738368) (hb : 0 < b) : Fn Try.prog 25 #[v0, v1] u (Tup2 (fun u r => Cv u r (bhF (((a : Int) : Rat) / ((b : Int) : Rat)) x)) (Is (.int .i64 0))) := by
  obtain ⟨s0, A0, n0, c0, t0, D0, m0, e0, rfl, h0, k0⟩ := h0
  obtain ⟨s1, A1, n1, c1, rfl, h1⟩ := h1
  refine fn_of (args := [_, _]) Try.func25 rfl (by show 2 ≤ 14; decide) ?_
  intro w0 hs0
  have hG0 := Gr.refl w0.heap.size u
  refine tri_seq ?_
  refine tri_reg mixed [.new 33 [.bool s0, .slice A0 n0 c0, .bool t0, .slice D0 m0 e0], .new 31 [.bool s1, .slice A1 n1 c1], .new 31 [.bool false, .slice none 0 0], .con (.int .i64 0)] [2, 3, 4] [0, 1, 2] [] ?_ (by decide) ?_ ?_ _ _
  · kernel_rfl
  · exact ⟨al, al, al, pu, trivial⟩
  rintro p1 x1 u1 hg1 -
  replace h0 := h0.sub hg1.1; replace h1 := h1.sub hg1.1; replace k0 := k0.sub hg1.1
  have hG1 := hG0.trans hg1
  refine next (g' := [(2, pt (p1 0) 0), (3, pt (p1 1) 0), (4, pt (p1 2) 0)]) (bx' := [⟨p1 0, 33, [.bool s0, .slice A0 n0 c0, .bool t0, .slice D0 m0 e0]⟩, ⟨p1 1, 31, [.bool s1, .slice A1 n1 c1]⟩, ⟨p1 2, 31, [.bool false, .slice none 0 0]⟩]) (rw' := []) (by kernel_rfl) (by kernel_rfl) (by kernel_rfl) ?_
  refine tri_seq ?_
  refine tri_seq ?_
  refine tri_reg mixed [.con (pt (p1 0) 2), .con (.agg #[.bool t0, .slice D0 m0 e0]), .con (.int .i64 (sg b)), .con (.bool false)] [2, 3, 4, 9] [0, 1, 2] [] ?_ (by decide) ?_ ?_ _ _
  · kernel_rfl
  · exact ⟨pu, ld 0 2 2 ty31, cc fun f u w hs => (z_Sign ⟨_, _, _, _, rfl, k0.sub hs.old⟩ (by omega)), pw (bf (p := (sg b) ≤ 0) (by exact sg_gt hb)), trivial⟩
  rintro p2 x2 u2 hg2 -
  replace h0 := h0.sub hg2.1; replace h1 := h1.sub hg2.1; replace k0 := k0.sub hg2.1
  have hG2 := hG1.trans hg2
  refine next (g' := [(2, pt (p1 0) 0), (3, pt (p1 1) 0), (4, pt (p1 2) 0), (9, .bool false)]) (bx' := [⟨p1 0, 33, [.bool s0, .slice A0 n0 c0, .bool t0, .slice D0 m0 e0]⟩, ⟨p1 1, 31, [.bool s1, .slice A1 n1 c1]⟩, ⟨p1 2, 31, [.bool false, .slice none 0 0]⟩]) (rw' := []) (by kernel_rfl) (by kernel_rfl) (by kernel_rfl) ?_
  refine tri_false rfl ?_
  refine tri_skip ?_
  refine next rfl rfl rfl ?_
  refine tri_seq ?_
  refine tri_reg mixed [.con (.agg #[.bool s0, .slice A0 n0 c0, .bool t0, .slice D0 m0 e0]), .con (.agg #[.bool s1, .slice A1 n1 c1]), .opq (fun u r => Cv u r (bhF (((a : Int) : Rat) / ((b : Int) : Rat)) x)), .sto ⟨2, 0, .op 2⟩, .con (.int .i64 0)] [4, 5] [2] [] ?_ (by decide) ?_ ?_ _ _
  · kernel_rfl
  · exact ⟨ld 0 0 4 ty33, ld 1 0 2 ty31, ca (Cv.m _) fun f u w hs => (k_behind (Qv.mono (b' := k) ⟨_, _, _, _, _, _, _, _, rfl, (h0.sub hs.old), (k0.sub hs.old)⟩ (by omega)) (Iv.mono ⟨_, _, _, _, rfl, h1.sub hs.old⟩ (by omega)) (by omega) (by omega)), st 2 0 2 ty31 (fun f u w hs => kn rfl (Cv.flat (hs.opq 2 _ rfl rfl))), pu, trivial⟩
  rintro p3 x3 u3 hg3 ⟨q2, -⟩
  replace h0 := h0.sub hg3.1; replace h1 := h1.sub hg3.1; replace k0 := k0.sub hg3.1
  have hG3 := hG2.trans hg3
  obtain ⟨s3_2, A3_2, n3_2, c3_2, e3_2, h3_2⟩ := q2; rw [fun_upd (i := 2) e3_2]
  refine next (g' := [(4, pt (p1 2) 0), (5, .int .i64 0)]) (bx' := [⟨p1 2, 31, [.bool s3_2, .slice A3_2 n3_2 c3_2]⟩]) (rw' := []) (by kernel_rfl) (by kernel_rfl) (by kernel_rfl) ?_
  exact tri_ret (ret2 rfl (.agg #[.bool s3_2, .slice A3_2 n3_2 c3_2]) (.int .i64 0) (rv_cell 0 (p1 2) 2 31 [.bool s3_2, .slice A3_2 n3_2 c3_2] rfl rfl ty31 rfl rfl rfl) rfl hG3 (⟨_, _, rfl, ⟨_, _, _, _, rfl, h3_2⟩, rfl⟩))

set_option maxRecDepth 100000 in
theorem k_Behind0 {u : World} {a b x : Int} {k : Nat} {v0 : Value} {v1 : Value} (h0 : Qv u v0 a b k) (h1 : Iv u v1 x k) (hk : k ≤ 34359738368) (hb : ¬ 0 < b) : Fn Try.prog 25 #[v0, v1] u (Tup2 (Is (.agg #[.bool false, .slice none 0 0])) (Is (.int .i64 30))) := by
  obtain ⟨s0, A0, n0, c0, t0, D0, m0, e0, rfl, h0, k0⟩ := h0
  obtain ⟨s1, A1, n1, c1, rfl, h1⟩ := h1
  refine fn_of (args := [_, _]) Try.func25 rfl (by show 2 ≤ 14; decide) ?_
  intro w0 hs0
  have hG0 := Gr.refl w0.heap.size u
  refine tri_seq ?_
  refine tri_reg mixed [.new 33 [.bool s0, .slice A0 n0 c0, .bool t0, .slice D0 m0 e0], .new 31 [.bool s1, .slice A1 n1 c1], .new 31 [.bool false, .slice none 0 0], .con (.int .i64 0)] [2, 3, 4] [0, 1, 2] [] ?_ (by decide) ?_ ?_ _ _
  · kernel_rfl
  · exact ⟨al, al, al, pu, trivial⟩
  rintro p1 x1 u1 hg1 -
  replace h0 := h0.sub hg1.1; replace h1 := h1.sub hg1.1; replace k0 := k0.sub hg1.1
  have hG1 := hG0.trans hg1
  refine next (g' := [(2, pt (p1 0) 0), (3, pt (p1 1) 0), (4, pt (p1 2) 0)]) (bx' := [⟨p1 0, 33, [.bool s0, .slice A0 n0 c0, .bool t0, .slice D0 m0 e0]⟩, ⟨p1 1, 31, [.bool s1, .slice A1 n1 c1]⟩, ⟨p1 2, 31, [.bool false, .slice none 0 0]⟩]) (rw' := []) (by kernel_rfl) (by kernel_rfl) (by kernel_rfl) ?_
  refine tri_seq ?_
  refine tri_seq ?_
  refine tri_reg mixed [.con (pt (p1 0) 2), .con (.agg #[.bool t0, .slice D0 m0 e0]), .con (.int .i64 (sg b)), .con (.bool true)] [2, 3, 4, 9] [0, 1, 2] [] ?_ (by decide) ?_ ?_ _ _
  · kernel_rfl
  · exact ⟨pu, ld 0 2 2 ty31, cc fun f u w hs => (z_Sign ⟨_, _, _, _, rfl, k0.sub hs.old⟩ (by omega)), pw (bt (p := (sg b) ≤ 0) (by exact sg_le hb)), trivial⟩
  rintro p2 x2 u2 hg2 -
  replace h0 := h0.sub hg2.1; replace h1 := h1.sub hg2.1; replace k0 := k0.sub hg2.1
  have hG2 := hG1.trans hg2
  refine next (g' := [(2, pt (p1 0) 0), (3, pt (p1 1) 0), (4, pt (p1 2) 0), (9, .bool true)]) (bx' := [⟨p1 0, 33, [.bool s0, .slice A0 n0 c0, .bool t0, .slice D0 m0 e0]⟩, ⟨p1 1, 31, [.bool s1, .slice A1 n1 c1]⟩, ⟨p1 2, 31, [.bool false, .slice none 0 0]⟩]) (rw' := []) (by kernel_rfl) (by kernel_rfl) (by kernel_rfl) ?_
  refine tri_true rfl ?_
  refine tri_seq ?_
  refine tri_reg mixed [.con (.agg #[.bool false, .slice none 0 0]), .sto ⟨2, 0, .op 0⟩, .con (.int .i64 30)] [4, 5] [2] [] ?_ (by decide) ?_ ?_ _ _
  · kernel_rfl
  · exact ⟨pu, st 2 0 2 ty31 (fun f u w hs => kn rfl ⟨rfl, rfl⟩), pu, trivial⟩
  rintro p3 x3 u3 hg3 -
  replace h0 := h0.sub hg3.1; replace h1 := h1.sub hg3.1; replace k0 := k0.sub hg3.1
  have hG3 := hG2.trans hg3
  refine next (g' := [(4, pt (p1 2) 0), (5, .int .i64 30)]) (bx' := [⟨p1 2, 31, [.bool false, .slice none 0 0]⟩]) (rw' := []) (by kernel_rfl) (by kernel_rfl) (by kernel_rfl) ?_
  exact tri_ret (ret2 rfl (.agg #[.bool false, .slice none 0 0]) (.int .i64 30) (rv_cell 0 (p1 2) 2 31 [.bool false, .slice none 0 0] rfl rfl ty31 rfl rfl rfl) rfl hG3 (⟨_, _, rfl, rfl, rfl⟩))
end Go.Proofs.Ytaagioghkicdkaa
