/- Contracts of rationals and of the document's numbers. -/
import Derived.Test.YtaagioghkicdkaaR01
import Derived.Test.YtaagioghkicdkaaR02
set_option linter.unusedVariables false
set_option linter.unusedSimpArgs false
namespace Go.Proofs.Ytaagioghkicdkaa
open Go.RowKit Go.Proofs.YtaagioghkicdkaaW.PrintWords Mt
namespace Mt
theorem sgneg {x : Int} : sg x < 0 ↔ x < 0 := by unfold sg sgnc; split <;> (try split) <;> omega
theorem sgpos {x : Int} : 0 < sg x ↔ 0 < x := by unfold sg sgnc; split <;> (try split) <;> omega
end Mt

set_option maxRecDepth 100000 in
theorem r_made {u : World} {x y : Int} {k l : Nat} {v0 : Value} {v1 : Value} (h0 : Iv u v0 x k) (h1 : Iv u v1 y l) (hk : k ≤ 1099511627776) (hl : l ≤ 1099511627776) (h0y : y ≠ 0) : Fn Try.prog 129 #[v0, v1] u (fun u r => CQv u r ((x : Rat) / y)) := by
  obtain ⟨s0, A0, n0, c0, rfl, h0⟩ := h0
  obtain ⟨s1, A1, n1, c1, rfl, h1⟩ := h1
  refine fn_of (args := [_, _]) Try.func129 rfl (by show 2 ≤ 35; decide) ?_
  intro w0 hs0
  have hG0 := Gr.refl w0.heap.size u
  refine tri_seq ?_
  refine tri_reg mixed [.new 31 [.bool s0, .slice A0 n0 c0], .new 31 [.bool s1, .slice A1 n1 c1], .new 33 [.bool false, .slice none 0 0, .bool false, .slice none 0 0]] [2, 3, 4] [0, 1, 2] [] ?_ (by decide) ?_ ?_ _ _
  · kernel_rfl
  · exact ⟨al, al, al, trivial⟩
  rintro p1 x1 u1 hg1 -
  replace h0 := h0.sub hg1.1; replace h1 := h1.sub hg1.1
  have hG1 := hG0.trans hg1
  refine next (g' := [(2, pt (p1 0) 0), (3, pt (p1 1) 0), (4, pt (p1 2) 0)]) (bx' := [⟨p1 0, 31, [.bool s0, .slice A0 n0 c0]⟩, ⟨p1 1, 31, [.bool s1, .slice A1 n1 c1]⟩, ⟨p1 2, 33, [.bool false, .slice none 0 0, .bool false, .slice none 0 0]⟩]) (rw' := []) (by kernel_rfl) (by kernel_rfl) (by kernel_rfl) ?_
  refine tri_seq ?_
  refine tri_seq ?_
  rcases Classical.em (y < 0) with hy0 | hy0
  · have hq := rat_made (x := -x) (y := -y) (by omega)
    rw [rat_neg] at hq
    refine tri_reg mixed [.con (.agg #[.bool s1, .slice A1 n1 c1]), .con (.int .i64 (sg y)), .con (.bool true)] [2, 3, 4, 12] [0, 1, 2] [] ?_ (by decide) ?_ ?_ _ _
    · kernel_rfl
    · exact ⟨ld 1 0 2 ty31, cc fun f u w hs => (z_Sign ⟨_, _, _, _, rfl, h1.sub hs.old⟩ (by omega)), pw (bt (p := (sg y) < 0) (by exact sgneg.2 hy0)), trivial⟩
    rintro p2 x2 u2 hg2 -
    replace h0 := h0.sub hg2.1; replace h1 := h1.sub hg2.1
    have hG2 := hG1.trans hg2
    refine next (g' := [(2, pt (p1 0) 0), (3, pt (p1 1) 0), (4, pt (p1 2) 0), (12, .bool true)]) (bx' := [⟨p1 0, 31, [.bool s0, .slice A0 n0 c0]⟩, ⟨p1 1, 31, [.bool s1, .slice A1 n1 c1]⟩, ⟨p1 2, 33, [.bool false, .slice none 0 0, .bool false, .slice none 0 0]⟩]) (rw' := []) (by kernel_rfl) (by kernel_rfl) (by kernel_rfl) ?_
    refine tri_true rfl ?_
    refine tri_reg mixed [.con (.agg #[.bool s0, .slice A0 n0 c0]), .opq (fun u r => Cv u r (-x)), .con (.agg #[.bool s1, .slice A1 n1 c1]), .opq (fun u r => Cv u r (-y)), .sto ⟨0, 0, .op 1⟩, .sto ⟨1, 0, .op 3⟩] [2, 3, 4] [0, 1, 2] [] ?_ (by decide) ?_ ?_ _ _
    · kernel_rfl
    · exact ⟨ld 0 0 2 ty31, ca (Cv.m _) fun f u w hs => (z_Neg ⟨_, _, _, _, rfl, h0.sub hs.old⟩ (by omega)), ld 1 0 2 ty31, ca (Cv.m _) fun f u w hs => (z_Neg ⟨_, _, _, _, rfl, h1.sub hs.old⟩ (by omega)), st 0 0 2 ty31 (fun f u w hs => kn rfl (Cv.flat (hs.opq 1 _ rfl rfl))), st 1 0 2 ty31 (fun f u w hs => kn rfl (Cv.flat (hs.opq 3 _ rfl rfl))), trivial⟩
    rintro p3 x3 u3 hg3 ⟨q1, q3, -⟩
    replace h0 := h0.sub hg3.1; replace h1 := h1.sub hg3.1
    have hG3 := hG2.trans hg3
    obtain ⟨s3_1, A3_1, n3_1, c3_1, e3_1, h3_1⟩ := q1; rw [fun_upd (i := 1) e3_1]
    obtain ⟨s3_3, A3_3, n3_3, c3_3, e3_3, h3_3⟩ := q3; rw [fun_upd (i := 3) e3_3]
    refine next (g' := [(2, pt (p1 0) 0), (3, pt (p1 1) 0), (4, pt (p1 2) 0)]) (bx' := [⟨p1 0, 31, [.bool s3_1, .slice A3_1 n3_1 c3_1]⟩, ⟨p1 1, 31, [.bool s3_3, .slice A3_3 n3_3 c3_3]⟩, ⟨p1 2, 33, [.bool false, .slice none 0 0, .bool false, .slice none 0 0]⟩]) (rw' := []) (by kernel_rfl) (by kernel_rfl) (by kernel_rfl) ?_
    refine tri_seq ?_
    refine tri_reg mixed [.con (.agg #[.bool s3_1, .slice A3_1 n3_1 c3_1]), .con (.agg #[.bool s3_3, .slice A3_3 n3_3 c3_3]), .opq (fun u r => Cv u r ((Int.gcd (-x) (-y) : Nat) : Int)), .new 31 [.bool false, .slice none 0 0], .sto ⟨6, 0, .op 2⟩] [2, 3, 4, 5] [0, 1, 2, 6] [] ?_ (by decide) ?_ ?_ _ _
    · kernel_rfl
    · exact ⟨ld 0 0 2 ty31, ld 1 0 2 ty31, ca (Cv.m _) fun f u w hs => (z_Gcd ⟨_, _, _, _, rfl, (h3_1.sub hs.old).gi (zl_neg h0.zl)⟩ ⟨_, _, _, _, rfl, (h3_3.sub hs.old).gi (zl_neg h1.zl)⟩ (by omega) (by omega)), al, sn 3 2 ty31 (fun f u w hs => kn rfl (Cv.flat (hs.opq 2 _ rfl rfl))), trivial⟩
    rintro p4 x4 u4 hg4 ⟨q2, -⟩
    replace h3_1 := h3_1.sub hg4.1; replace h3_3 := h3_3.sub hg4.1
    have hG4 := hG3.trans hg4
    obtain ⟨s4_2, A4_2, n4_2, c4_2, e4_2, h4_2⟩ := q2; rw [fun_upd (i := 2) e4_2]
    refine next (g' := [(2, pt (p1 0) 0), (3, pt (p1 1) 0), (4, pt (p1 2) 0), (5, pt (p4 3) 0)]) (bx' := [⟨p1 0, 31, [.bool s3_1, .slice A3_1 n3_1 c3_1]⟩, ⟨p1 1, 31, [.bool s3_3, .slice A3_3 n3_3 c3_3]⟩, ⟨p1 2, 33, [.bool false, .slice none 0 0, .bool false, .slice none 0 0]⟩, ⟨p4 3, 31, [.bool s4_2, .slice A4_2 n4_2 c4_2]⟩]) (rw' := []) (by kernel_rfl) (by kernel_rfl) (by kernel_rfl) ?_
    refine tri_seq ?_
    refine tri_reg mixed [.con (.agg #[.bool s3_1, .slice A3_1 n3_1 c3_1]), .con (.agg #[.bool s4_2, .slice A4_2 n4_2 c4_2]), .opq (Tup2 (fun u r => Cv u r ((-x) / ((Int.gcd (-x) (-y) : Nat) : Int))) (Is (.int .i64 0))), .opq (Tup2 (fun u r => Cv u r ((-x) / ((Int.gcd (-x) (-y) : Nat) : Int))) (Is (.int .i64 0))), .opq (fun u r => Cv u r ((-x) / ((Int.gcd (-x) (-y) : Nat) : Int))), .con (.int .i64 0), .new 31 [.bool false, .slice none 0 0], .sto ⟨10, 0, .op 4⟩, .con (.int .i64 0)] [3, 4, 5, 6] [1, 2, 3, 10] [] ?_ (by decide) ?_ ?_ _ _
    · kernel_rfl
    · exact ⟨ld 0 0 2 ty31, ld 3 0 2 ty31, ca (Tup2.mono (Cv.m _) (Is.mono _)) fun f u w hs => (z_Exact ⟨_, _, _, _, rfl, (h3_1.sub hs.old).gi (zl_neg h0.zl)⟩ ⟨_, _, _, _, rfl, (h4_2.sub hs.old).gi (zl_gcd (zl_neg h0.zl) (zl_neg h1.zl))⟩ (by omega) (by omega) (by exact gcd_nz (by omega)) (by first | exact Int.gcd_dvd_left _ _ | exact Int.gcd_dvd_right _ _)), mv 2 (Tup2.mono (Cv.m _) (Is.mono _)), ex2a 3 (Cv.m _), ex2c 3, al, sn 6 2 ty31 (fun f u w hs => kn rfl (Cv.flat (hs.opq 4 _ rfl rfl))), pu, trivial⟩
    rintro p5 x5 u5 hg5 ⟨q2, q3, q4, -⟩
    replace h3_1 := h3_1.sub hg5.1; replace h3_3 := h3_3.sub hg5.1; replace h4_2 := h4_2.sub hg5.1
    have hG5 := hG4.trans hg5
    obtain ⟨s5_4, A5_4, n5_4, c5_4, e5_4, h5_4⟩ := q4; rw [fun_upd (i := 4) e5_4]
    refine next (g' := [(3, pt (p1 1) 0), (4, pt (p1 2) 0), (5, pt (p4 3) 0), (6, pt (p5 6) 0)]) (bx' := [⟨p1 1, 31, [.bool s3_3, .slice A3_3 n3_3 c3_3]⟩, ⟨p1 2, 33, [.bool false, .slice none 0 0, .bool false, .slice none 0 0]⟩, ⟨p4 3, 31, [.bool s4_2, .slice A4_2 n4_2 c4_2]⟩, ⟨p5 6, 31, [.bool s5_4, .slice A5_4 n5_4 c5_4]⟩]) (rw' := []) (by kernel_rfl) (by kernel_rfl) (by kernel_rfl) ?_
    refine tri_seq ?_
    refine tri_reg mixed [.con (.agg #[.bool s3_3, .slice A3_3 n3_3 c3_3]), .con (.agg #[.bool s4_2, .slice A4_2 n4_2 c4_2]), .opq (Tup2 (fun u r => Cv u r ((-y) / ((Int.gcd (-x) (-y) : Nat) : Int))) (Is (.int .i64 0))), .opq (Tup2 (fun u r => Cv u r ((-y) / ((Int.gcd (-x) (-y) : Nat) : Int))) (Is (.int .i64 0))), .opq (fun u r => Cv u r ((-y) / ((Int.gcd (-x) (-y) : Nat) : Int))), .con (.int .i64 0), .new 31 [.bool false, .slice none 0 0], .sto ⟨10, 0, .op 4⟩, .con (.int .i64 0)] [4, 6, 8] [1, 3, 10] [] ?_ (by decide) ?_ ?_ _ _
    · kernel_rfl
    · exact ⟨ld 0 0 2 ty31, ld 2 0 2 ty31, ca (Tup2.mono (Cv.m _) (Is.mono _)) fun f u w hs => (z_Exact ⟨_, _, _, _, rfl, (h3_3.sub hs.old).gi (zl_neg h1.zl)⟩ ⟨_, _, _, _, rfl, (h4_2.sub hs.old).gi (zl_gcd (zl_neg h0.zl) (zl_neg h1.zl))⟩ (by omega) (by omega) (by exact gcd_nz (by omega)) (by first | exact Int.gcd_dvd_left _ _ | exact Int.gcd_dvd_right _ _)), mv 2 (Tup2.mono (Cv.m _) (Is.mono _)), ex2a 3 (Cv.m _), ex2c 3, al, sn 6 2 ty31 (fun f u w hs => kn rfl (Cv.flat (hs.opq 4 _ rfl rfl))), pu, trivial⟩
    rintro p6 x6 u6 hg6 ⟨q2, q3, q4, -⟩
    replace h3_3 := h3_3.sub hg6.1; replace h4_2 := h4_2.sub hg6.1; replace h5_4 := h5_4.sub hg6.1
    have hG6 := hG5.trans hg6
    obtain ⟨s6_4, A6_4, n6_4, c6_4, e6_4, h6_4⟩ := q4; rw [fun_upd (i := 4) e6_4]
    refine next (g' := [(4, pt (p1 2) 0), (6, pt (p5 6) 0), (8, pt (p6 6) 0)]) (bx' := [⟨p1 2, 33, [.bool false, .slice none 0 0, .bool false, .slice none 0 0]⟩, ⟨p5 6, 31, [.bool s5_4, .slice A5_4 n5_4 c5_4]⟩, ⟨p6 6, 31, [.bool s6_4, .slice A6_4 n6_4 c6_4]⟩]) (rw' := []) (by kernel_rfl) (by kernel_rfl) (by kernel_rfl) ?_
    refine tri_seq ?_
    refine tri_reg mixed [.con (.agg #[.bool s5_4, .slice A5_4 n5_4 c5_4]), .con (.agg #[.bool s6_4, .slice A6_4 n6_4 c6_4]), .con (.agg #[.bool s5_4, .slice A5_4 n5_4 c5_4, .bool s6_4, .slice A6_4 n6_4 c6_4]), .sto ⟨0, 0, .op 2⟩] [4] [0] [] ?_ (by decide) ?_ ?_ _ _
    · kernel_rfl
    · exact ⟨ld 1 0 2 ty31, ld 2 0 2 ty31, pu, st 0 0 4 ty33 (fun f u w hs => kn rfl ⟨rfl, rfl⟩), trivial⟩
    rintro p7 x7 u7 hg7 -
    replace h5_4 := h5_4.sub hg7.1; replace h6_4 := h6_4.sub hg7.1
    have hG7 := hG6.trans hg7
    refine next (g' := [(4, pt (p1 2) 0)]) (bx' := [⟨p1 2, 33, [.bool s5_4, .slice A5_4 n5_4 c5_4, .bool s6_4, .slice A6_4 n6_4 c6_4]⟩]) (rw' := []) (by kernel_rfl) (by kernel_rfl) (by kernel_rfl) ?_
    exact tri_ret (ret1 rfl (.agg #[.bool s5_4, .slice A5_4 n5_4 c5_4, .bool s6_4, .slice A6_4 n6_4 c6_4]) (rv_cell 0 (p1 2) 4 33 [.bool s5_4, .slice A5_4 n5_4 c5_4, .bool s6_4, .slice A6_4 n6_4 c6_4] rfl rfl ty33 rfl rfl rfl) hG7 (⟨_, _, _, _, _, _, _, _, rfl, by rw [hq.1]; exact h5_4, by rw [hq.2]; exact h6_4⟩))
  · have hq := rat_made (x := x) (y := y) (by omega)
    refine tri_reg mixed [.con (.agg #[.bool s1, .slice A1 n1 c1]), .con (.int .i64 (sg y)), .con (.bool false)] [2, 3, 4, 12] [0, 1, 2] [] ?_ (by decide) ?_ ?_ _ _
    · kernel_rfl
    · exact ⟨ld 1 0 2 ty31, cc fun f u w hs => (z_Sign ⟨_, _, _, _, rfl, h1.sub hs.old⟩ (by omega)), pw (bf (p := (sg y) < 0) (by exact fun h => hy0 (sgneg.1 h))), trivial⟩
    rintro p8 x8 u8 hg8 -
    replace h0 := h0.sub hg8.1; replace h1 := h1.sub hg8.1
    have hG8 := hG1.trans hg8
    refine next (g' := [(2, pt (p1 0) 0), (3, pt (p1 1) 0), (4, pt (p1 2) 0), (12, .bool false)]) (bx' := [⟨p1 0, 31, [.bool s0, .slice A0 n0 c0]⟩, ⟨p1 1, 31, [.bool s1, .slice A1 n1 c1]⟩, ⟨p1 2, 33, [.bool false, .slice none 0 0, .bool false, .slice none 0 0]⟩]) (rw' := []) (by kernel_rfl) (by kernel_rfl) (by kernel_rfl) ?_
    refine tri_false rfl ?_
    refine tri_skip ?_
    refine next rfl rfl rfl ?_
    refine tri_seq ?_
    refine tri_reg mixed [.con (.agg #[.bool s0, .slice A0 n0 c0]), .con (.agg #[.bool s1, .slice A1 n1 c1]), .opq (fun u r => Cv u r ((Int.gcd x y : Nat) : Int)), .new 31 [.bool false, .slice none 0 0], .sto ⟨6, 0, .op 2⟩] [2, 3, 4, 5] [0, 1, 2, 6] [] ?_ (by decide) ?_ ?_ _ _
    · kernel_rfl
    · exact ⟨ld 0 0 2 ty31, ld 1 0 2 ty31, ca (Cv.m _) fun f u w hs => (z_Gcd ⟨_, _, _, _, rfl, h0.sub hs.old⟩ ⟨_, _, _, _, rfl, h1.sub hs.old⟩ (by omega) (by omega)), al, sn 3 2 ty31 (fun f u w hs => kn rfl (Cv.flat (hs.opq 2 _ rfl rfl))), trivial⟩
    rintro p9 x9 u9 hg9 ⟨q2, -⟩
    replace h0 := h0.sub hg9.1; replace h1 := h1.sub hg9.1
    have hG9 := hG8.trans hg9
    obtain ⟨s9_2, A9_2, n9_2, c9_2, e9_2, h9_2⟩ := q2; rw [fun_upd (i := 2) e9_2]
    refine next (g' := [(2, pt (p1 0) 0), (3, pt (p1 1) 0), (4, pt (p1 2) 0), (5, pt (p9 3) 0)]) (bx' := [⟨p1 0, 31, [.bool s0, .slice A0 n0 c0]⟩, ⟨p1 1, 31, [.bool s1, .slice A1 n1 c1]⟩, ⟨p1 2, 33, [.bool false, .slice none 0 0, .bool false, .slice none 0 0]⟩, ⟨p9 3, 31, [.bool s9_2, .slice A9_2 n9_2 c9_2]⟩]) (rw' := []) (by kernel_rfl) (by kernel_rfl) (by kernel_rfl) ?_
    refine tri_seq ?_
    refine tri_reg mixed [.con (.agg #[.bool s0, .slice A0 n0 c0]), .con (.agg #[.bool s9_2, .slice A9_2 n9_2 c9_2]), .opq (Tup2 (fun u r => Cv u r (x / ((Int.gcd x y : Nat) : Int))) (Is (.int .i64 0))), .opq (Tup2 (fun u r => Cv u r (x / ((Int.gcd x y : Nat) : Int))) (Is (.int .i64 0))), .opq (fun u r => Cv u r (x / ((Int.gcd x y : Nat) : Int))), .con (.int .i64 0), .new 31 [.bool false, .slice none 0 0], .sto ⟨10, 0, .op 4⟩, .con (.int .i64 0)] [3, 4, 5, 6] [1, 2, 3, 10] [] ?_ (by decide) ?_ ?_ _ _
    · kernel_rfl
    · exact ⟨ld 0 0 2 ty31, ld 3 0 2 ty31, ca (Tup2.mono (Cv.m _) (Is.mono _)) fun f u w hs => (z_Exact ⟨_, _, _, _, rfl, h0.sub hs.old⟩ ⟨_, _, _, _, rfl, (h9_2.sub hs.old).gi (zl_gcd h0.zl h1.zl)⟩ (by omega) (by omega) (by exact gcd_nz (by omega)) (by first | exact Int.gcd_dvd_left _ _ | exact Int.gcd_dvd_right _ _)), mv 2 (Tup2.mono (Cv.m _) (Is.mono _)), ex2a 3 (Cv.m _), ex2c 3, al, sn 6 2 ty31 (fun f u w hs => kn rfl (Cv.flat (hs.opq 4 _ rfl rfl))), pu, trivial⟩
    rintro p10 x10 u10 hg10 ⟨q2, q3, q4, -⟩
    replace h0 := h0.sub hg10.1; replace h1 := h1.sub hg10.1; replace h9_2 := h9_2.sub hg10.1
    have hG10 := hG9.trans hg10
    obtain ⟨s10_4, A10_4, n10_4, c10_4, e10_4, h10_4⟩ := q4; rw [fun_upd (i := 4) e10_4]
    refine next (g' := [(3, pt (p1 1) 0), (4, pt (p1 2) 0), (5, pt (p9 3) 0), (6, pt (p10 6) 0)]) (bx' := [⟨p1 1, 31, [.bool s1, .slice A1 n1 c1]⟩, ⟨p1 2, 33, [.bool false, .slice none 0 0, .bool false, .slice none 0 0]⟩, ⟨p9 3, 31, [.bool s9_2, .slice A9_2 n9_2 c9_2]⟩, ⟨p10 6, 31, [.bool s10_4, .slice A10_4 n10_4 c10_4]⟩]) (rw' := []) (by kernel_rfl) (by kernel_rfl) (by kernel_rfl) ?_
    refine tri_seq ?_
    refine tri_reg mixed [.con (.agg #[.bool s1, .slice A1 n1 c1]), .con (.agg #[.bool s9_2, .slice A9_2 n9_2 c9_2]), .opq (Tup2 (fun u r => Cv u r (y / ((Int.gcd x y : Nat) : Int))) (Is (.int .i64 0))), .opq (Tup2 (fun u r => Cv u r (y / ((Int.gcd x y : Nat) : Int))) (Is (.int .i64 0))), .opq (fun u r => Cv u r (y / ((Int.gcd x y : Nat) : Int))), .con (.int .i64 0), .new 31 [.bool false, .slice none 0 0], .sto ⟨10, 0, .op 4⟩, .con (.int .i64 0)] [4, 6, 8] [1, 3, 10] [] ?_ (by decide) ?_ ?_ _ _
    · kernel_rfl
    · exact ⟨ld 0 0 2 ty31, ld 2 0 2 ty31, ca (Tup2.mono (Cv.m _) (Is.mono _)) fun f u w hs => (z_Exact ⟨_, _, _, _, rfl, h1.sub hs.old⟩ ⟨_, _, _, _, rfl, (h9_2.sub hs.old).gi (zl_gcd h0.zl h1.zl)⟩ (by omega) (by omega) (by exact gcd_nz (by omega)) (by first | exact Int.gcd_dvd_left _ _ | exact Int.gcd_dvd_right _ _)), mv 2 (Tup2.mono (Cv.m _) (Is.mono _)), ex2a 3 (Cv.m _), ex2c 3, al, sn 6 2 ty31 (fun f u w hs => kn rfl (Cv.flat (hs.opq 4 _ rfl rfl))), pu, trivial⟩
    rintro p11 x11 u11 hg11 ⟨q2, q3, q4, -⟩
    replace h1 := h1.sub hg11.1; replace h10_4 := h10_4.sub hg11.1; replace h9_2 := h9_2.sub hg11.1
    have hG11 := hG10.trans hg11
    obtain ⟨s11_4, A11_4, n11_4, c11_4, e11_4, h11_4⟩ := q4; rw [fun_upd (i := 4) e11_4]
    refine next (g' := [(4, pt (p1 2) 0), (6, pt (p10 6) 0), (8, pt (p11 6) 0)]) (bx' := [⟨p1 2, 33, [.bool false, .slice none 0 0, .bool false, .slice none 0 0]⟩, ⟨p10 6, 31, [.bool s10_4, .slice A10_4 n10_4 c10_4]⟩, ⟨p11 6, 31, [.bool s11_4, .slice A11_4 n11_4 c11_4]⟩]) (rw' := []) (by kernel_rfl) (by kernel_rfl) (by kernel_rfl) ?_
    refine tri_seq ?_
    refine tri_reg mixed [.con (.agg #[.bool s10_4, .slice A10_4 n10_4 c10_4]), .con (.agg #[.bool s11_4, .slice A11_4 n11_4 c11_4]), .con (.agg #[.bool s10_4, .slice A10_4 n10_4 c10_4, .bool s11_4, .slice A11_4 n11_4 c11_4]), .sto ⟨0, 0, .op 2⟩] [4] [0] [] ?_ (by decide) ?_ ?_ _ _
    · kernel_rfl
    · exact ⟨ld 1 0 2 ty31, ld 2 0 2 ty31, pu, st 0 0 4 ty33 (fun f u w hs => kn rfl ⟨rfl, rfl⟩), trivial⟩
    rintro p12 x12 u12 hg12 -
    replace h10_4 := h10_4.sub hg12.1; replace h11_4 := h11_4.sub hg12.1
    have hG12 := hG11.trans hg12
    refine next (g' := [(4, pt (p1 2) 0)]) (bx' := [⟨p1 2, 33, [.bool s10_4, .slice A10_4 n10_4 c10_4, .bool s11_4, .slice A11_4 n11_4 c11_4]⟩]) (rw' := []) (by kernel_rfl) (by kernel_rfl) (by kernel_rfl) ?_
    exact tri_ret (ret1 rfl (.agg #[.bool s10_4, .slice A10_4 n10_4 c10_4, .bool s11_4, .slice A11_4 n11_4 c11_4]) (rv_cell 0 (p1 2) 4 33 [.bool s10_4, .slice A10_4 n10_4 c10_4, .bool s11_4, .slice A11_4 n11_4 c11_4] rfl rfl ty33 rfl rfl rfl) hG12 (⟨_, _, _, _, _, _, _, _, rfl, by rw [hq.1]; exact h10_4, by rw [hq.2]; exact h11_4⟩))

set_option maxRecDepth 100000 in
theorem r_Make {u : World} {x y : Int} {k l : Nat} {v0 : Value} {v1 : Value} (h0 : Iv u v0 x k) (h1 : Iv u v1 y l) (hk : k ≤ 1099511627776) (hl : l ≤ 1099511627776) (h0y : y ≠ 0) : Fn Try.prog 84 #[v0, v1] u (Tup2 (fun u r => CQv u r ((x : Rat) / y)) (Is (.int .i64 0))) := by
  obtain ⟨s0, A0, n0, c0, rfl, h0⟩ := h0
  obtain ⟨s1, A1, n1, c1, rfl, h1⟩ := h1
  refine fn_of (args := [_, _]) Try.func84 rfl (by show 2 ≤ 13; decide) ?_
  intro w0 hs0
  have hG0 := Gr.refl w0.heap.size u
  refine tri_seq ?_
  refine tri_reg mixed [.new 31 [.bool s0, .slice A0 n0 c0], .new 31 [.bool s1, .slice A1 n1 c1], .new 33 [.bool false, .slice none 0 0, .bool false, .slice none 0 0], .con (.int .i64 0)] [2, 3, 4] [0, 1, 2] [] ?_ (by decide) ?_ ?_ _ _
  · kernel_rfl
  · exact ⟨al, al, al, pu, trivial⟩
  rintro p1 x1 u1 hg1 -
  replace h0 := h0.sub hg1.1; replace h1 := h1.sub hg1.1
  have hG1 := hG0.trans hg1
  refine next (g' := [(2, pt (p1 0) 0), (3, pt (p1 1) 0), (4, pt (p1 2) 0)]) (bx' := [⟨p1 0, 31, [.bool s0, .slice A0 n0 c0]⟩, ⟨p1 1, 31, [.bool s1, .slice A1 n1 c1]⟩, ⟨p1 2, 33, [.bool false, .slice none 0 0, .bool false, .slice none 0 0]⟩]) (rw' := []) (by kernel_rfl) (by kernel_rfl) (by kernel_rfl) ?_
  refine tri_seq ?_
  refine tri_seq ?_
  refine tri_reg mixed [.con (.agg #[.bool s1, .slice A1 n1 c1]), .con (.int .i64 (sg y)), .con (.bool false)] [2, 3, 4, 8] [0, 1, 2] [] ?_ (by decide) ?_ ?_ _ _
  · kernel_rfl
  · exact ⟨ld 1 0 2 ty31, cc fun f u w hs => (z_Sign ⟨_, _, _, _, rfl, h1.sub hs.old⟩ (by omega)), pw (bef (a := (sg y)) (b := 0) (by exact fun h => h0y (sg_iff.1 h))), trivial⟩
  rintro p2 x2 u2 hg2 -
  replace h0 := h0.sub hg2.1; replace h1 := h1.sub hg2.1
  have hG2 := hG1.trans hg2
  refine next (g' := [(2, pt (p1 0) 0), (3, pt (p1 1) 0), (4, pt (p1 2) 0), (8, .bool false)]) (bx' := [⟨p1 0, 31, [.bool s0, .slice A0 n0 c0]⟩, ⟨p1 1, 31, [.bool s1, .slice A1 n1 c1]⟩, ⟨p1 2, 33, [.bool false, .slice none 0 0, .bool false, .slice none 0 0]⟩]) (rw' := []) (by kernel_rfl) (by kernel_rfl) (by kernel_rfl) ?_
  refine tri_false rfl ?_
  refine tri_skip ?_
  refine next rfl rfl rfl ?_
  refine tri_seq ?_
  refine tri_reg mixed [.con (.agg #[.bool s0, .slice A0 n0 c0]), .con (.agg #[.bool s1, .slice A1 n1 c1]), .opq (fun u r => CQv u r (((x : Int) : Rat) / ((y : Int) : Rat))), .sto ⟨2, 0, .op 2⟩, .con (.int .i64 0)] [4, 5] [2] [] ?_ (by decide) ?_ ?_ _ _
  · kernel_rfl
  · exact ⟨ld 0 0 2 ty31, ld 1 0 2 ty31, ca (CQv.m _) fun f u w hs => (r_made ⟨_, _, _, _, rfl, h0.sub hs.old⟩ ⟨_, _, _, _, rfl, h1.sub hs.old⟩ (by omega) (by omega) (by omega)), st 2 0 4 ty33 (fun f u w hs => kn rfl (CQv.flat (hs.opq 2 _ rfl rfl))), pu, trivial⟩
  rintro p3 x3 u3 hg3 ⟨q2, -⟩
  replace h0 := h0.sub hg3.1; replace h1 := h1.sub hg3.1
  have hG3 := hG2.trans hg3
  obtain ⟨s3_2, A3_2, n3_2, c3_2, t3_2, D3_2, m3_2, d3_2, e3_2, h3_2, k3_2⟩ := q2; rw [fun_upd (i := 2) e3_2]
  refine next (g' := [(4, pt (p1 2) 0), (5, .int .i64 0)]) (bx' := [⟨p1 2, 33, [.bool s3_2, .slice A3_2 n3_2 c3_2, .bool t3_2, .slice D3_2 m3_2 d3_2]⟩]) (rw' := []) (by kernel_rfl) (by kernel_rfl) (by kernel_rfl) ?_
  exact tri_ret (ret2 rfl (.agg #[.bool s3_2, .slice A3_2 n3_2 c3_2, .bool t3_2, .slice D3_2 m3_2 d3_2]) (.int .i64 0) (rv_cell 0 (p1 2) 4 33 [.bool s3_2, .slice A3_2 n3_2 c3_2, .bool t3_2, .slice D3_2 m3_2 d3_2] rfl rfl ty33 rfl rfl rfl) rfl hG3 (⟨_, _, rfl, ⟨_, _, _, _, _, _, _, _, rfl, h3_2, k3_2⟩, rfl⟩))

set_option maxRecDepth 100000 in
theorem r_Make0 {u : World} {x y : Int} {k l : Nat} {v0 : Value} {v1 : Value} (h0 : Iv u v0 x k) (h1 : Iv u v1 y l) (hk : k ≤ 1099511627776) (hl : l ≤ 1099511627776) (h0y : y = 0) : Fn Try.prog 84 #[v0, v1] u (Tup2 (Is (.agg #[.bool false, .slice none 0 0, .bool false, .slice none 0 0])) (Is (.int .i64 11))) := by
  obtain ⟨s0, A0, n0, c0, rfl, h0⟩ := h0
  obtain ⟨s1, A1, n1, c1, rfl, h1⟩ := h1
  refine fn_of (args := [_, _]) Try.func84 rfl (by show 2 ≤ 13; decide) ?_
  intro w0 hs0
  have hG0 := Gr.refl w0.heap.size u
  refine tri_seq ?_
  refine tri_reg mixed [.new 31 [.bool s0, .slice A0 n0 c0], .new 31 [.bool s1, .slice A1 n1 c1], .new 33 [.bool false, .slice none 0 0, .bool false, .slice none 0 0], .con (.int .i64 0)] [2, 3, 4] [0, 1, 2] [] ?_ (by decide) ?_ ?_ _ _
  · kernel_rfl
  · exact ⟨al, al, al, pu, trivial⟩
  rintro p1 x1 u1 hg1 -
  replace h0 := h0.sub hg1.1; replace h1 := h1.sub hg1.1
  have hG1 := hG0.trans hg1
  refine next (g' := [(2, pt (p1 0) 0), (3, pt (p1 1) 0), (4, pt (p1 2) 0)]) (bx' := [⟨p1 0, 31, [.bool s0, .slice A0 n0 c0]⟩, ⟨p1 1, 31, [.bool s1, .slice A1 n1 c1]⟩, ⟨p1 2, 33, [.bool false, .slice none 0 0, .bool false, .slice none 0 0]⟩]) (rw' := []) (by kernel_rfl) (by kernel_rfl) (by kernel_rfl) ?_
  refine tri_seq ?_
  refine tri_seq ?_
  refine tri_reg mixed [.con (.agg #[.bool s1, .slice A1 n1 c1]), .con (.int .i64 (sg y)), .con (.bool true)] [2, 3, 4, 8] [0, 1, 2] [] ?_ (by decide) ?_ ?_ _ _
  · kernel_rfl
  · exact ⟨ld 1 0 2 ty31, cc fun f u w hs => (z_Sign ⟨_, _, _, _, rfl, h1.sub hs.old⟩ (by omega)), pw (bet (a := (sg y)) (b := 0) (by exact sg_iff.2 h0y)), trivial⟩
  rintro p2 x2 u2 hg2 -
  replace h0 := h0.sub hg2.1; replace h1 := h1.sub hg2.1
  have hG2 := hG1.trans hg2
  refine next (g' := [(2, pt (p1 0) 0), (3, pt (p1 1) 0), (4, pt (p1 2) 0), (8, .bool true)]) (bx' := [⟨p1 0, 31, [.bool s0, .slice A0 n0 c0]⟩, ⟨p1 1, 31, [.bool s1, .slice A1 n1 c1]⟩, ⟨p1 2, 33, [.bool false, .slice none 0 0, .bool false, .slice none 0 0]⟩]) (rw' := []) (by kernel_rfl) (by kernel_rfl) (by kernel_rfl) ?_
  refine tri_true rfl ?_
  refine tri_seq ?_
  refine tri_reg mixed [.con (.agg #[.bool false, .slice none 0 0, .bool false, .slice none 0 0]), .sto ⟨2, 0, .op 0⟩, .con (.int .i64 11)] [4, 5] [2] [] ?_ (by decide) ?_ ?_ _ _
  · kernel_rfl
  · exact ⟨pu, st 2 0 4 ty33 (fun f u w hs => kn rfl ⟨rfl, rfl⟩), pu, trivial⟩
  rintro p3 x3 u3 hg3 -
  replace h0 := h0.sub hg3.1; replace h1 := h1.sub hg3.1
  have hG3 := hG2.trans hg3
  refine next (g' := [(4, pt (p1 2) 0), (5, .int .i64 11)]) (bx' := [⟨p1 2, 33, [.bool false, .slice none 0 0, .bool false, .slice none 0 0]⟩]) (rw' := []) (by kernel_rfl) (by kernel_rfl) (by kernel_rfl) ?_
  exact tri_ret (ret2 rfl (.agg #[.bool false, .slice none 0 0, .bool false, .slice none 0 0]) (.int .i64 11) (rv_cell 0 (p1 2) 4 33 [.bool false, .slice none 0 0, .bool false, .slice none 0 0] rfl rfl ty33 rfl rfl rfl) rfl hG3 (⟨_, _, rfl, rfl, rfl⟩))

set_option maxRecDepth 100000 in
theorem r_Of {u : World} {x : Int} {k : Nat} {v0 : Value} (h0 : Iv u v0 x k) (hk : k ≤ 1099511627776) : Fn Try.prog 80 #[v0] u (fun u r => CQv u r (x : Rat)) := by
  obtain ⟨s0, A0, n0, c0, rfl, h0⟩ := h0
  refine fn_of (args := [_]) Try.func80 rfl (by show 1 ≤ 7; decide) ?_
  intro w0 hs0
  have hG0 := Gr.refl w0.heap.size u
  refine tri_seq ?_
  refine tri_reg mixed [.new 31 [.bool s0, .slice A0 n0 c0], .new 33 [.bool false, .slice none 0 0, .bool false, .slice none 0 0]] [1, 2] [0, 1] [] ?_ (by decide) ?_ ?_ _ _
  · kernel_rfl
  · exact ⟨al, al, trivial⟩
  rintro p1 x1 u1 hg1 -
  replace h0 := h0.sub hg1.1
  have hG1 := hG0.trans hg1
  refine next (g' := [(1, pt (p1 0) 0), (2, pt (p1 1) 0)]) (bx' := [⟨p1 0, 31, [.bool s0, .slice A0 n0 c0]⟩, ⟨p1 1, 33, [.bool false, .slice none 0 0, .bool false, .slice none 0 0]⟩]) (rw' := []) (by kernel_rfl) (by kernel_rfl) (by kernel_rfl) ?_
  refine tri_seq ?_
  refine tri_reg mixed [.con (.agg #[.bool s0, .slice A0 n0 c0]), .opq (fun u r => Cv u r x), .opq (fun u r => Cv u r 1), .opq (fun u r => Pv u r x 1), .sto ⟨1, 0, .op 3⟩] [2] [1] [] ?_ (by decide) ?_ ?_ _ _
  · kernel_rfl
  · exact ⟨ld 0 0 2 ty31, ca (Cv.m _) fun f u w hs => (z_Form ⟨_, _, _, _, rfl, h0.sub hs.old⟩ (by omega)), ca (Cv.m _) fun f u w hs => (z_Of (by omega) (by omega)), bqX (Pv.m _ _) fun f u w hs => by obtain ⟨s__0, A__0, n__0, c__0, e__0, h__0⟩ := hs.opq 1 _ rfl rfl; obtain ⟨s__1, A__1, n__1, c__1, e__1, h__1⟩ := hs.opq 2 _ rfl rfl; exact ⟨.agg #[.bool s__0, .slice A__0 n__0 c__0, .bool s__1, .slice A__1 n__1 c__1], ⟨_, _, _, _, _, _, _, _, rfl, h__0, h__1⟩, by rw [fun_upd e__0, fun_upd e__1]; kernel_rfl⟩, st 1 0 4 ty33 (fun f u w hs => kn rfl (Pv.flat (hs.opq 3 _ rfl rfl))), trivial⟩
  rintro p2 x2 u2 hg2 ⟨q1, q2, q3, -⟩
  replace h0 := h0.sub hg2.1
  have hG2 := hG1.trans hg2
  obtain ⟨s2_3, A2_3, n2_3, c2_3, t2_3, D2_3, m2_3, d2_3, e2_3, h2_3, k2_3⟩ := q3; rw [fun_upd (i := 3) e2_3]
  refine next (g' := [(2, pt (p1 1) 0)]) (bx' := [⟨p1 1, 33, [.bool s2_3, .slice A2_3 n2_3 c2_3, .bool t2_3, .slice D2_3 m2_3 d2_3]⟩]) (rw' := []) (by kernel_rfl) (by kernel_rfl) (by kernel_rfl) ?_
  exact tri_ret (ret1 rfl (.agg #[.bool s2_3, .slice A2_3 n2_3 c2_3, .bool t2_3, .slice D2_3 m2_3 d2_3]) (rv_cell 0 (p1 1) 4 33 [.bool s2_3, .slice A2_3 n2_3 c2_3, .bool t2_3, .slice D2_3 m2_3 d2_3] rfl rfl ty33 rfl rfl rfl) hG2 (⟨_, _, _, _, _, _, _, _, rfl, by rw [(rat_whole x).1]; exact h2_3, by rw [(rat_whole x).2]; exact k2_3⟩))

theorem Mt.qb_of {x : Int} {k : Nat} (h : zl x ≤ k) : QB (x : Rat) (max k 1) := by
  unfold QB; rw [(rat_whole x).1, (rat_whole x).2]; exact ⟨Nat.le_trans h (Nat.le_max_left _ _), Nat.le_trans zl_one (Nat.le_max_right _ _)⟩

namespace Mt
theorem lim_zero_iff {N : Nat} : lim N = 0 ↔ N = 0 := ⟨fun h => by rcases Nat.eq_zero_or_pos N with k | k; exact k; have := lim_ps k; omega, fun h => by rw [h]; exact lim_zero⟩
end Mt
theorem ci_of {u : World} {s s' : Bool} {v : Value} {N : Nat} (hs : s = decide (intv s' N < 0)) (h : LCv u v N) : Cv u (.agg #[.bool s, v]) (intv s' N) := by
  obtain ⟨A, n, c, rfl, h⟩ := h
  exact ⟨_, _, _, _, rfl, hs, by rw [intv_natAbs]; exact h⟩

theorem bool3 (s : Bool) (p : Prop) : s = false ∨ (s = true ∧ p) ∨ (s = true ∧ ¬ p) := by
  cases s
  · exact .inl rfl
  · exact .inr (by by_cases h : p; exact .inl ⟨rfl, h⟩; exact .inr ⟨rfl, h⟩)

set_option maxRecDepth 100000 in
theorem r02_made {u : World} {s : Bool} {N k : Nat} {v1 : Value} (h1 : Lv u v1 N k) (hk : k ≤ 35184372088831) : Fn Try.prog 100 #[.bool s, v1] u (fun u r => Cv u r (intv s N)) := by
  obtain ⟨A1, n1, c1, xs1, rfl, h1, l1, b1, M1, L1, V1⟩ := h1.open
  have hNl := lim_zero_iff (N := N)
  refine fn_of (args := [_, _]) Try.func100 rfl (by show 2 ≤ 16; decide) ?_
  intro w0 hs0
  have hG0 := Gr.refl w0.heap.size u
  refine tri_seq ?_
  refine tri_reg mixed [.new 31 [.bool false, .slice none 0 0]] [0, 1, 4] [0] [] ?_ (by decide) ?_ ?_ _ _
  · kernel_rfl
  · exact ⟨al, trivial⟩
  rintro p1 x1 u1 hg1 -
  replace h1 := h1.sub dLk hg1.1
  have hG1 := hG0.trans hg1
  refine next (g' := [(0, .bool s), (1, .slice A1 n1 c1), (4, pt (p1 0) 0)]) (bx' := [⟨p1 0, 31, [.bool false, .slice none 0 0]⟩]) (rw' := []) (by kernel_rfl) (by kernel_rfl) (by kernel_rfl) ?_
  refine tri_seq ?_
  refine tri_reg mixed [.con (.slice A1 n1 c1), .opq (fun u r => LCv u r N), .cpy 1] [0, 4, 5] [0] [] ?_ (by decide) ?_ ?_ _ _
  · kernel_rfl
  · exact ⟨pu, ca (LCv.m _) fun f u w hs => (r01_NormV (Lv.of (b := k) (h1.sub dLk hs.old) L1 V1 (by rw [l1]; exact b1)) (by omega)), cp, trivial⟩
  rintro p2 x2 u2 hg2 ⟨q1, -⟩
  replace h1 := h1.sub dLk hg2.1
  have hG2 := hG1.trans hg2
  obtain ⟨A2_1, n2_1, c2_1, e2_1, h2_1, l2_1, l2_1n, l2_1M⟩ := q1.open; rw [fun_upd (i := 1) e2_1]
  refine next (g' := [(0, .bool s), (4, pt (p1 0) 0), (5, .slice A2_1 n2_1 c2_1)]) (bx' := [⟨p1 0, 31, [.bool false, .slice none 0 0]⟩]) (rw' := []) (by kernel_rfl) (by kernel_rfl) (by kernel_rfl) ?_
  refine tri_seq ?_
  rcases bool3 s (lim N = 0) with hs | ⟨hs, hz⟩ | ⟨hs, hz⟩
  · subst hs
    refine tri_reg mixed [.con (.bool false), .con (.bool false), .con undef, .con undef, .con undef, .con (.bool false), .con (.slice A2_1 n2_1 c2_1), .con (.agg #[.bool false, .slice A2_1 n2_1 c2_1]), .sto ⟨0, 0, .op 7⟩] [4] [0] [] ?_ (by decide) ?_ ?_ _ _
    · kernel_rfl
    · exact ⟨pu, pu, trivial, trivial, trivial, pu, pu, pu, st 0 0 2 ty31 (fun f u w hs => kn rfl ⟨rfl, rfl⟩), trivial⟩
    rintro p3 x3 u3 hg3 -
    replace h2_1 := h2_1.sub dLk hg3.1
    have hG3 := hG2.trans hg3
    refine next (g' := [(4, pt (p1 0) 0)]) (bx' := [⟨p1 0, 31, [.bool false, .slice A2_1 n2_1 c2_1]⟩]) (rw' := []) (by kernel_rfl) (by kernel_rfl) (by kernel_rfl) ?_
    exact tri_ret (ret1 rfl (.agg #[.bool false, .slice A2_1 n2_1 c2_1]) (rv_cell 0 (p1 0) 2 31 [.bool false, .slice A2_1 n2_1 c2_1] rfl rfl ty31 rfl rfl rfl) hG3 ((ci_of (by simp [intv]; try omega) (LCv.of h2_1))))
  · subst hs
    refine tri_reg mixed [.con (.bool true), .con (.bool true), .con (.slice A2_1 n2_1 c2_1), .con (.int .i64 (n2_1 : Int)), .con (.bool false), .con (.bool false), .con (.slice A2_1 n2_1 c2_1), .con (.agg #[.bool false, .slice A2_1 n2_1 c2_1]), .sto ⟨0, 0, .op 7⟩] [4] [0] [] ?_ (by decide) ?_ ?_ _ _
    · kernel_rfl
    · exact ⟨pu, pu, pu, pu, pw (bf (p := 0 < (n2_1 : Int)) (by omega)), pu, pu, pu, st 0 0 2 ty31 (fun f u w hs => kn rfl ⟨rfl, rfl⟩), trivial⟩
    rintro p4 x4 u4 hg4 -
    replace h2_1 := h2_1.sub dLk hg4.1
    have hG4 := hG2.trans hg4
    refine next (g' := [(4, pt (p1 0) 0)]) (bx' := [⟨p1 0, 31, [.bool false, .slice A2_1 n2_1 c2_1]⟩]) (rw' := []) (by kernel_rfl) (by kernel_rfl) (by kernel_rfl) ?_
    exact tri_ret (ret1 rfl (.agg #[.bool false, .slice A2_1 n2_1 c2_1]) (rv_cell 0 (p1 0) 2 31 [.bool false, .slice A2_1 n2_1 c2_1] rfl rfl ty31 rfl rfl rfl) hG4 ((ci_of (by simp [intv]; try omega) (LCv.of h2_1))))
  · subst hs
    refine tri_reg mixed [.con (.bool true), .con (.bool true), .con (.slice A2_1 n2_1 c2_1), .con (.int .i64 (n2_1 : Int)), .con (.bool true), .con (.bool true), .con (.slice A2_1 n2_1 c2_1), .con (.agg #[.bool true, .slice A2_1 n2_1 c2_1]), .sto ⟨0, 0, .op 7⟩] [4] [0] [] ?_ (by decide) ?_ ?_ _ _
    · kernel_rfl
    · exact ⟨pu, pu, pu, pu, pw (bt (p := 0 < (n2_1 : Int)) (by omega)), pu, pu, pu, st 0 0 2 ty31 (fun f u w hs => kn rfl ⟨rfl, rfl⟩), trivial⟩
    rintro p5 x5 u5 hg5 -
    replace h2_1 := h2_1.sub dLk hg5.1
    have hG5 := hG2.trans hg5
    refine next (g' := [(4, pt (p1 0) 0)]) (bx' := [⟨p1 0, 31, [.bool true, .slice A2_1 n2_1 c2_1]⟩]) (rw' := []) (by kernel_rfl) (by kernel_rfl) (by kernel_rfl) ?_
    exact tri_ret (ret1 rfl (.agg #[.bool true, .slice A2_1 n2_1 c2_1]) (rv_cell 0 (p1 0) 2 31 [.bool true, .slice A2_1 n2_1 c2_1] rfl rfl ty31 rfl rfl rfl) hG5 ((ci_of (by simp [intv]; try omega) (LCv.of h2_1))))

set_option maxRecDepth 100000 in
theorem r02_Norm {u : World} {x : Int} {k : Nat} {v0 : Value} (h0 : Iv u v0 x k) (hk : k ≤ 4398046511104) : Fn Try.prog 61 #[v0] u (fun u r => Cv u r x) := by
  obtain ⟨s0, A0, n0, c0, rfl, h0⟩ := h0
  have h0x := h0.is; have hzl : lim x.natAbs ≤ k := h0.zl
  refine fn_of (args := [_]) Try.func61 rfl (by show 1 ≤ 8; decide) ?_
  intro w0 hs0
  have hG0 := Gr.refl w0.heap.size u
  refine tri_seq ?_
  refine tri_reg mixed [.new 31 [.bool s0, .slice A0 n0 c0], .new 31 [.bool false, .slice none 0 0]] [1, 2] [0, 1] [] ?_ (by decide) ?_ ?_ _ _
  · kernel_rfl
  · exact ⟨al, al, trivial⟩
  rintro p1 x1 u1 hg1 -
  replace h0 := h0.sub hg1.1
  have hG1 := hG0.trans hg1
  refine next (g' := [(1, pt (p1 0) 0), (2, pt (p1 1) 0)]) (bx' := [⟨p1 0, 31, [.bool s0, .slice A0 n0 c0]⟩, ⟨p1 1, 31, [.bool false, .slice none 0 0]⟩]) (rw' := []) (by kernel_rfl) (by kernel_rfl) (by kernel_rfl) ?_
  refine tri_seq ?_
  refine tri_reg mixed [.con (pt (p1 0) 0), .con (.bool s0), .con (pt (p1 0) 1), .con (.slice A0 n0 c0), .opq (fun u r => Cv u r (intv s0 ((x).natAbs))), .sto ⟨1, 0, .op 4⟩] [2] [1] [] ?_ (by decide) ?_ ?_ _ _
  · kernel_rfl
  · exact ⟨pu, ld 0 0 1 ty4, pu, ld 0 1 1 ty29, ca (Cv.m _) fun f u w hs => (r02_made ⟨_, _, _, rfl, (h0.sub hs.old).1, GI.rn (h0.sub hs.old)⟩ (by omega)), st 1 0 2 ty31 (fun f u w hs => kn rfl (Cv.flat (hs.opq 4 _ rfl rfl))), trivial⟩
  rintro p2 x2 u2 hg2 ⟨q4, -⟩
  replace h0 := h0.sub hg2.1
  have hG2 := hG1.trans hg2
  obtain ⟨s2_4, A2_4, n2_4, c2_4, e2_4, h2_4⟩ := q4; rw [fun_upd (i := 4) e2_4]
  refine next (g' := [(2, pt (p1 1) 0)]) (bx' := [⟨p1 1, 31, [.bool s2_4, .slice A2_4 n2_4 c2_4]⟩]) (rw' := []) (by kernel_rfl) (by kernel_rfl) (by kernel_rfl) ?_
  exact tri_ret (ret1 rfl (.agg #[.bool s2_4, .slice A2_4 n2_4 c2_4]) (rv_cell 0 (p1 1) 2 31 [.bool s2_4, .slice A2_4 n2_4 c2_4] rfl rfl ty31 rfl rfl rfl) hG2 (⟨_, _, _, _, rfl, by rw [h0x]; exact h2_4⟩))

namespace Mt
theorem neg_is {x : Int} {s : Bool} (h : x = intv s x.natAbs) : -x = intv (!s) x.natAbs := by cases s <;> simp [intv] at h ⊢ <;> omega
theorem sg_is1 {x : Int} (h : 0 < x) : sg x = 1 := by unfold sg; exact sgnc_gt h
theorem sg_isn {x : Int} (h : x < 0) : sg x = -1 := by unfold sg; exact sgnc_lt h
theorem mul_is {x y : Int} {s t : Bool} (h : x = intv s x.natAbs) (k : y = intv t y.natAbs) : x * y = intv (s != t) (x.natAbs * y.natAbs) := by
  generalize x.natAbs = M at *; generalize y.natAbs = N at *; subst h; subst k; rw [intv_mul]; rfl
end Mt

set_option maxRecDepth 100000 in
theorem r02_Neg {u : World} {x : Int} {k : Nat} {v0 : Value} (h0 : Iv u v0 x k) (hk : k ≤ 4398046511104) : Fn Try.prog 130 #[v0] u (fun u r => Cv u r (-x)) := by
  obtain ⟨s0, A0, n0, c0, rfl, h0⟩ := h0
  have h0x := h0.is; have hzl : lim x.natAbs ≤ k := h0.zl
  refine fn_of (args := [_]) Try.func130 rfl (by show 1 ≤ 9; decide) ?_
  intro w0 hs0
  have hG0 := Gr.refl w0.heap.size u
  refine tri_seq ?_
  refine tri_reg mixed [.new 31 [.bool s0, .slice A0 n0 c0], .new 31 [.bool false, .slice none 0 0]] [1, 2] [0, 1] [] ?_ (by decide) ?_ ?_ _ _
  · kernel_rfl
  · exact ⟨al, al, trivial⟩
  rintro p1 x1 u1 hg1 -
  replace h0 := h0.sub hg1.1
  have hG1 := hG0.trans hg1
  refine next (g' := [(1, pt (p1 0) 0), (2, pt (p1 1) 0)]) (bx' := [⟨p1 0, 31, [.bool s0, .slice A0 n0 c0]⟩, ⟨p1 1, 31, [.bool false, .slice none 0 0]⟩]) (rw' := []) (by kernel_rfl) (by kernel_rfl) (by kernel_rfl) ?_
  refine tri_seq ?_
  refine tri_reg mixed [.con (pt (p1 0) 0), .con (.bool s0), .con (.bool (!s0)), .con (pt (p1 0) 1), .con (.slice A0 n0 c0), .opq (fun u r => Cv u r (intv (!s0) ((x).natAbs))), .sto ⟨1, 0, .op 5⟩] [2] [1] [] ?_ (by decide) ?_ ?_ _ _
  · kernel_rfl
  · exact ⟨pu, ld 0 0 1 ty4, pu, pu, ld 0 1 1 ty29, ca (Cv.m _) fun f u w hs => (r02_made ⟨_, _, _, rfl, (h0.sub hs.old).1, GI.rn (h0.sub hs.old)⟩ (by omega)), st 1 0 2 ty31 (fun f u w hs => kn rfl (Cv.flat (hs.opq 5 _ rfl rfl))), trivial⟩
  rintro p2 x2 u2 hg2 ⟨q5, -⟩
  replace h0 := h0.sub hg2.1
  have hG2 := hG1.trans hg2
  obtain ⟨s2_5, A2_5, n2_5, c2_5, e2_5, h2_5⟩ := q5; rw [fun_upd (i := 5) e2_5]
  refine next (g' := [(2, pt (p1 1) 0)]) (bx' := [⟨p1 1, 31, [.bool s2_5, .slice A2_5 n2_5 c2_5]⟩]) (rw' := []) (by kernel_rfl) (by kernel_rfl) (by kernel_rfl) ?_
  exact tri_ret (ret1 rfl (.agg #[.bool s2_5, .slice A2_5 n2_5 c2_5]) (rv_cell 0 (p1 1) 2 31 [.bool s2_5, .slice A2_5 n2_5 c2_5] rfl rfl ty31 rfl rfl rfl) hG2 (⟨_, _, _, _, rfl, by rw [(neg_is h0.is)]; exact h2_5⟩))

set_option maxRecDepth 100000 in
theorem r02_Sign {u : World} {x : Int} {k : Nat} {v0 : Value} (h0 : Iv u v0 x k) (hk : k ≤ 4398046511104) : Fn Try.prog 66 #[v0] u (Is (.int .i64 (sg x))) := by
  obtain ⟨s0, A0, n0, c0, rfl, h0⟩ := h0
  have h0x := h0.is; have hNl := lim_zero_iff (N := x.natAbs)
  refine fn_of (args := [_]) Try.func66 rfl (by show 1 ≤ 14; decide) ?_
  intro w0 hs0
  have hG0 := Gr.refl w0.heap.size u
  refine tri_seq ?_
  refine tri_reg mixed [.new 31 [.bool s0, .slice A0 n0 c0], .con (.int .i64 0)] [1] [0] [] ?_ (by decide) ?_ ?_ _ _
  · kernel_rfl
  · exact ⟨al, pu, trivial⟩
  rintro p1 x1 u1 hg1 -
  replace h0 := h0.sub hg1.1
  have hG1 := hG0.trans hg1
  refine next (g' := [(1, pt (p1 0) 0)]) (bx' := [⟨p1 0, 31, [.bool s0, .slice A0 n0 c0]⟩]) (rw' := []) (by kernel_rfl) (by kernel_rfl) (by kernel_rfl) ?_
  refine tri_seq ?_
  refine tri_reg mixed [.con (pt (p1 0) 1), .con (.slice A0 n0 c0), .opq (fun u r => LCv u r ((x).natAbs)), .cpy 2] [1, 3] [0] [] ?_ (by decide) ?_ ?_ _ _
  · kernel_rfl
  · exact ⟨pu, ld 0 1 1 ty29, ca (LCv.m _) fun f u w hs => (r01_NormV ⟨_, _, _, rfl, (h0.sub hs.old).1, GI.rn (h0.sub hs.old)⟩ (by omega)), cp, trivial⟩
  rintro p2 x2 u2 hg2 ⟨q2, -⟩
  replace h0 := h0.sub hg2.1
  have hG2 := hG1.trans hg2
  obtain ⟨A2_2, n2_2, c2_2, e2_2, h2_2, l2_2, l2_2n, l2_2M⟩ := q2.open; rw [fun_upd (i := 2) e2_2]
  refine next (g' := [(1, pt (p1 0) 0), (3, .slice A2_2 n2_2 c2_2)]) (bx' := [⟨p1 0, 31, [.bool s0, .slice A0 n0 c0]⟩]) (rw' := []) (by kernel_rfl) (by kernel_rfl) (by kernel_rfl) ?_
  refine tri_seq ?_
  refine tri_block ?_
  refine tri_seq ?_
  refine tri_reg mixed [.con (.slice A2_2 n2_2 c2_2), .con (.int .i64 (n2_2 : Int)), .con (.bool ((n2_2 : Int) == 0)), .con (.bool ((n2_2 : Int) == 0))] [1, 7] [0] [] ?_ (by decide) ?_ ?_ _ _
  · kernel_rfl
  · exact ⟨pu, pu, pu, pu, trivial⟩
  rintro p3 x3 u3 hg3 -
  replace h0 := h0.sub hg3.1; replace h2_2 := h2_2.sub dLk hg3.1
  have hG3 := hG2.trans hg3
  refine next (g' := [(1, pt (p1 0) 0), (7, .bool ((n2_2 : Int) == 0))]) (bx' := [⟨p1 0, 31, [.bool s0, .slice A0 n0 c0]⟩]) (rw' := []) (by kernel_rfl) (by kernel_rfl) (by kernel_rfl) ?_
  refine tri_cond (b := ((n2_2 : Int) == 0)) rfl (fun hc => ?_) (fun hc => ?_)
  · replace hc := eq_of_beq hc
    refine tri_seq ?_
    refine tri_reg mixed [.con (.int .i64 0)] [2] [] [] ?_ (by decide) ?_ ?_ _ _
    · kernel_rfl
    · exact ⟨pu, trivial⟩
    rintro p4 x4 u4 hg4 -
    replace h0 := h0.sub hg4.1
    have hG4 := hG3.trans hg4
    refine next (g' := [(2, .int .i64 0)]) (bx' := []) (rw' := []) (by kernel_rfl) (by kernel_rfl) (by kernel_rfl) ?_
    exact tri_ret (ret1 rfl (.int .i64 0) rfl hG4 (by show Value.int .i64 _ = _; congr 1; exact (sg_iff.2 (by omega)).symm))
  · replace hc := ne_of_beq_false hc
    refine tri_seq ?_
    refine tri_reg mixed [.con (pt (p1 0) 0), .con (.bool s0), .con (.bool s0)] [11] [] [] ?_ (by decide) ?_ ?_ _ _
    · kernel_rfl
    · exact ⟨pu, ld 0 0 1 ty4, pu, trivial⟩
    rintro p5 x5 u5 hg5 -
    replace h0 := h0.sub hg5.1
    have hG5 := hG3.trans hg5
    refine next (g' := [(11, .bool s0)]) (bx' := []) (rw' := []) (by kernel_rfl) (by kernel_rfl) (by kernel_rfl) ?_
    refine tri_cond (b := s0) rfl (fun hc => ?_) (fun hc => ?_)
    · refine tri_seq ?_
      refine tri_reg mixed [.con (.int .i64 (-1))] [2] [] [] ?_ (by decide) ?_ ?_ _ _
      · kernel_rfl
      · exact ⟨pu, trivial⟩
      rintro p6 x6 u6 hg6 -
      replace h0 := h0.sub hg6.1
      have hG6 := hG5.trans hg6
      refine next (g' := [(2, .int .i64 (-1))]) (bx' := []) (rw' := []) (by kernel_rfl) (by kernel_rfl) (by kernel_rfl) ?_
      exact tri_ret (ret1 rfl (.int .i64 (-1)) rfl hG6 (by show Value.int .i64 _ = _; congr 1; exact (sg_isn (by rw [h0x]; simp [intv, hc]; omega)).symm))
    · refine tri_skip ?_
      refine pn_blk ?_
      refine next rfl rfl rfl ?_
      refine tri_seq ?_
      refine tri_reg mixed [.con (.int .i64 1)] [2] [] [] ?_ (by decide) ?_ ?_ _ _
      · kernel_rfl
      · exact ⟨pu, trivial⟩
      rintro p7 x7 u7 hg7 -
      replace h0 := h0.sub hg7.1
      have hG7 := hG5.trans hg7
      refine next (g' := [(2, .int .i64 1)]) (bx' := []) (rw' := []) (by kernel_rfl) (by kernel_rfl) (by kernel_rfl) ?_
      exact tri_ret (ret1 rfl (.int .i64 1) rfl hG7 (by show Value.int .i64 _ = _; congr 1; exact (sg_is1 (by rw [h0x]; simp [intv, hc]; omega)).symm))

set_option maxRecDepth 100000 in
theorem r02_Mul {u : World} {x y : Int} {k l : Nat} {v0 : Value} {v1 : Value} (h0 : Iv u v0 x k) (h1 : Iv u v1 y l) (hk : k ≤ 4398046511104) (hl : l ≤ 4398046511104) : Fn Try.prog 115 #[v0, v1] u (fun u r => Cv u r (x * y)) := by
  obtain ⟨s0, A0, n0, c0, rfl, h0⟩ := h0
  obtain ⟨s1, A1, n1, c1, rfl, h1⟩ := h1
  have hx := h0.is; have hy := h1.is; have hl0 : lim x.natAbs ≤ k := h0.zl; have hl1 : lim y.natAbs ≤ l := h1.zl
  refine fn_of (args := [_, _]) Try.func115 rfl (by show 2 ≤ 16; decide) ?_
  intro w0 hs0
  have hG0 := Gr.refl w0.heap.size u
  refine tri_seq ?_
  refine tri_reg mixed [.new 31 [.bool s0, .slice A0 n0 c0], .new 31 [.bool s1, .slice A1 n1 c1], .new 31 [.bool false, .slice none 0 0]] [2, 3, 4] [0, 1, 2] [] ?_ (by decide) ?_ ?_ _ _
  · kernel_rfl
  · exact ⟨al, al, al, trivial⟩
  rintro p1 x1 u1 hg1 -
  replace h0 := h0.sub hg1.1; replace h1 := h1.sub hg1.1
  have hG1 := hG0.trans hg1
  refine next (g' := [(2, pt (p1 0) 0), (3, pt (p1 1) 0), (4, pt (p1 2) 0)]) (bx' := [⟨p1 0, 31, [.bool s0, .slice A0 n0 c0]⟩, ⟨p1 1, 31, [.bool s1, .slice A1 n1 c1]⟩, ⟨p1 2, 31, [.bool false, .slice none 0 0]⟩]) (rw' := []) (by kernel_rfl) (by kernel_rfl) (by kernel_rfl) ?_
  refine tri_seq ?_
  refine tri_reg mixed [.con (pt (p1 0) 0), .con (.bool s0), .con (pt (p1 1) 0), .con (.bool s1), .con (.bool (s0 != s1)), .con (pt (p1 0) 1), .con (.slice A0 n0 c0), .con (pt (p1 1) 1), .con (.slice A1 n1 c1), .opq (fun u r => LCv u r ((x).natAbs * (y).natAbs)), .opq (fun u r => Cv u r (intv (s0 != s1) ((x).natAbs * (y).natAbs))), .sto ⟨2, 0, .op 10⟩] [4] [2] [] ?_ (by decide) ?_ ?_ _ _
  · kernel_rfl
  · exact ⟨pu, ld 0 0 1 ty4, pu, ld 1 0 1 ty4, pu, pu, ld 0 1 1 ty29, pu, ld 1 1 1 ty29, ca (LCv.m _) fun f u w hs => (r01_Mul ⟨_, _, _, rfl, (h0.sub hs.old).1, GI.rn (h0.sub hs.old)⟩ ⟨_, _, _, rfl, (h1.sub hs.old).1, GI.rn (h1.sub hs.old)⟩ (by omega) (by omega)), ca (Cv.m _) fun f u w hs => (r02_made (LCv.lv (b := (k + l)) (hs.opq 9 _ rfl rfl) (Nat.le_trans (lim_mul _ _) (Nat.add_le_add h0.zl h1.zl))) (by omega)), st 2 0 2 ty31 (fun f u w hs => kn rfl (Cv.flat (hs.opq 10 _ rfl rfl))), trivial⟩
  rintro p2 x2 u2 hg2 ⟨q9, q10, -⟩
  replace h0 := h0.sub hg2.1; replace h1 := h1.sub hg2.1
  have hG2 := hG1.trans hg2
  obtain ⟨s2_10, A2_10, n2_10, c2_10, e2_10, h2_10⟩ := q10; rw [fun_upd (i := 10) e2_10]
  refine next (g' := [(4, pt (p1 2) 0)]) (bx' := [⟨p1 2, 31, [.bool s2_10, .slice A2_10 n2_10 c2_10]⟩]) (rw' := []) (by kernel_rfl) (by kernel_rfl) (by kernel_rfl) ?_
  exact tri_ret (ret1 rfl (.agg #[.bool s2_10, .slice A2_10 n2_10 c2_10]) (rv_cell 0 (p1 2) 2 31 [.bool s2_10, .slice A2_10 n2_10 c2_10] rfl rfl ty31 rfl rfl rfl) hG2 (⟨_, _, _, _, rfl, by rw [(mul_is hx hy)]; exact h2_10⟩))
end Go.Proofs.Ytaagioghkicdkaa
