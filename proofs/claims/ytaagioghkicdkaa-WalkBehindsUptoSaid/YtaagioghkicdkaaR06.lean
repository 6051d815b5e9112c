/- Contracts of rationals: sums, differences, floors. -/
import Derived.Test.YtaagioghkicdkaaR05
import Derived.Test.YtaagioghkicdkaaUJ
set_option linter.unusedVariables false
set_option linter.unusedSimpArgs false
namespace Go.Proofs.Ytaagioghkicdkaa
open Go.RowKit Go.Proofs.YtaagioghkicdkaaW.PrintWords Mt
namespace Mt
theorem QB.mono {q : Rat} {b b' : Nat} (h : QB q b) (hb : b ≤ b') : QB q b' := ⟨Nat.le_trans h.1 hb, Nat.le_trans h.2 hb⟩
theorem qb_div0 {x y : Int} {k : Nat} (hx : zl x ≤ k) (hy : zl y ≤ k) (h0 : y ≠ 0) : QB ((x : Rat) / y) k := (qb_div hx hy h0).mono (by omega)
theorem zl_addm {a b : Int} {m : Nat} (h : zl a ≤ m) (h' : zl b ≤ m) : zl (a + b) ≤ m + 1 := by unfold zl at *; exact Nat.le_trans (lim_mono (Int.natAbs_add_le _ _)) (lim_add h h')
theorem qb_add {p q : Rat} {k l : Nat} (h : QB p k) (h' : QB q l) : QB (p + q) (k + l + 1) := by
  rw [← rat_of p, ← rat_of q, rat_add (rden_nz p) (rden_nz q)]
  exact (qb_div (zl_addm (zl_mul h.1 h'.2) (Nat.le_trans (zl_mul h'.1 h.2) (by omega : l + k ≤ k + l))) (zl_mul h.2 h'.2) (Int.mul_ne_zero (rden_nz p) (rden_nz q))).mono (by omega)
theorem qb_mul {p q : Rat} {k l : Nat} (h : QB p k) (h' : QB q l) : QB (p * q) (k + l) := by
  rw [← rat_of p, ← rat_of q, rat_mul (rden_nz p) (rden_nz q)]
  exact (qb_div (zl_mul h.1 h'.1) (zl_mul h.2 h'.2) (Int.mul_ne_zero (rden_nz p) (rden_nz q))).mono (by omega)
theorem qb_neg {p : Rat} {k : Nat} (h : QB p k) : QB (-p) k := ⟨by rw [Rat.neg_num]; exact zl_neg h.1, by rw [Rat.neg_den]; exact h.2⟩
theorem qb_sub {p q : Rat} {k l : Nat} (h : QB p k) (h' : QB q l) : QB (p - q) (k + l + 1) := by rw [Rat.sub_eq_add_neg]; exact qb_add h (qb_neg h')
end Mt

theorem Mt.rat_dif {a b c d : Int} (hb : b ≠ 0) (hd : d ≠ 0) : (a : Rat) / b - (c : Rat) / d = ((a * d - c * b : Int) : Rat) / ((b * d : Int) : Rat) := by
  have h1 := rat_nz hb; have h2 := rat_nz hd; push_cast; grind

set_option maxRecDepth 100000 in
theorem r03_Add {u : World} {a b c d : Int} {k l : Nat} {v0 : Value} {v1 : Value} (h0 : Qv u v0 a b k) (h1 : Qv u v1 c d l) (hk : k ≤ 137438953472) (hl : l ≤ 137438953472) (hb : b ≠ 0) (hd : d ≠ 0) : Fn Try.prog 113 #[v0, v1] u (fun u r => CQv u r (((a : Int) : Rat) / ((b : Int) : Rat) + ((c : Int) : Rat) / ((d : Int) : Rat))) := by
  obtain ⟨s0, A0, n0, c0, t0, D0, m0, e0, rfl, h0, k0⟩ := h0
  obtain ⟨s1, A1, n1, c1, t1, D1, m1, e1, rfl, h1, k1⟩ := h1
  refine fn_of (args := [_, _]) Try.func113 rfl (by show 2 ≤ 26; decide) ?_
  intro w0 hs0
  have hG0 := Gr.refl w0.heap.size u
  refine tri_seq ?_
  refine tri_reg mixed [.new 33 [.bool s0, .slice A0 n0 c0, .bool t0, .slice D0 m0 e0], .new 33 [.bool s1, .slice A1 n1 c1, .bool t1, .slice D1 m1 e1], .new 33 [.bool false, .slice none 0 0, .bool false, .slice none 0 0]] [2, 3, 4] [0, 1, 2] [] ?_ (by decide) ?_ ?_ _ _
  · kernel_rfl
  · exact ⟨al, al, al, trivial⟩
  rintro p1 x1 u1 hg1 -
  replace h0 := h0.sub hg1.1; replace h1 := h1.sub hg1.1; replace k0 := k0.sub hg1.1; replace k1 := k1.sub hg1.1
  have hG1 := hG0.trans hg1
  refine next (g' := [(2, pt (p1 0) 0), (3, pt (p1 1) 0), (4, pt (p1 2) 0)]) (bx' := [⟨p1 0, 33, [.bool s0, .slice A0 n0 c0, .bool t0, .slice D0 m0 e0]⟩, ⟨p1 1, 33, [.bool s1, .slice A1 n1 c1, .bool t1, .slice D1 m1 e1]⟩, ⟨p1 2, 33, [.bool false, .slice none 0 0, .bool false, .slice none 0 0]⟩]) (rw' := []) (by kernel_rfl) (by kernel_rfl) (by kernel_rfl) ?_
  refine tri_seq ?_
  refine tri_reg mixed [.con (pt (p1 0) 0), .con (.agg #[.bool s0, .slice A0 n0 c0]), .con (pt (p1 1) 2), .con (.agg #[.bool t1, .slice D1 m1 e1]), .opq (fun u r => Cv u r (a * d)), .new 31 [.bool false, .slice none 0 0], .sto ⟨8, 0, .op 4⟩] [2, 3, 4, 5] [0, 1, 2, 8] [] ?_ (by decide) ?_ ?_ _ _
  · kernel_rfl
  · exact ⟨pu, ld 0 0 2 ty31, pu, ld 1 2 2 ty31, ca (Cv.m _) fun f u w hs => (r02_Mul ⟨_, _, _, _, rfl, h0.sub hs.old⟩ ⟨_, _, _, _, rfl, k1.sub hs.old⟩ (by omega) (by omega)), al, sn 5 2 ty31 (fun f u w hs => kn rfl (Cv.flat (hs.opq 4 _ rfl rfl))), trivial⟩
  rintro p2 x2 u2 hg2 ⟨q4, -⟩
  replace h0 := h0.sub hg2.1; replace h1 := h1.sub hg2.1; replace k0 := k0.sub hg2.1; replace k1 := k1.sub hg2.1
  have hG2 := hG1.trans hg2
  obtain ⟨s2_4, A2_4, n2_4, c2_4, e2_4, h2_4⟩ := q4; rw [fun_upd (i := 4) e2_4]
  refine next (g' := [(2, pt (p1 0) 0), (3, pt (p1 1) 0), (4, pt (p1 2) 0), (5, pt (p2 5) 0)]) (bx' := [⟨p1 0, 33, [.bool s0, .slice A0 n0 c0, .bool t0, .slice D0 m0 e0]⟩, ⟨p1 1, 33, [.bool s1, .slice A1 n1 c1, .bool t1, .slice D1 m1 e1]⟩, ⟨p1 2, 33, [.bool false, .slice none 0 0, .bool false, .slice none 0 0]⟩, ⟨p2 5, 31, [.bool s2_4, .slice A2_4 n2_4 c2_4]⟩]) (rw' := []) (by kernel_rfl) (by kernel_rfl) (by kernel_rfl) ?_
  refine tri_seq ?_
  refine tri_reg mixed [.con (pt (p1 1) 0), .con (.agg #[.bool s1, .slice A1 n1 c1]), .con (pt (p1 0) 2), .con (.agg #[.bool t0, .slice D0 m0 e0]), .opq (fun u r => Cv u r (c * b)), .new 31 [.bool false, .slice none 0 0], .sto ⟨9, 0, .op 4⟩] [2, 3, 4, 5, 6] [0, 1, 2, 3, 9] [] ?_ (by decide) ?_ ?_ _ _
  · kernel_rfl
  · exact ⟨pu, ld 1 0 2 ty31, pu, ld 0 2 2 ty31, ca (Cv.m _) fun f u w hs => (r02_Mul ⟨_, _, _, _, rfl, h1.sub hs.old⟩ ⟨_, _, _, _, rfl, k0.sub hs.old⟩ (by omega) (by omega)), al, sn 5 2 ty31 (fun f u w hs => kn rfl (Cv.flat (hs.opq 4 _ rfl rfl))), trivial⟩
  rintro p3 x3 u3 hg3 ⟨q4, -⟩
  replace h0 := h0.sub hg3.1; replace h1 := h1.sub hg3.1; replace h2_4 := h2_4.sub hg3.1; replace k0 := k0.sub hg3.1; replace k1 := k1.sub hg3.1
  have hG3 := hG2.trans hg3
  obtain ⟨s3_4, A3_4, n3_4, c3_4, e3_4, h3_4⟩ := q4; rw [fun_upd (i := 4) e3_4]
  refine next (g' := [(2, pt (p1 0) 0), (3, pt (p1 1) 0), (4, pt (p1 2) 0), (5, pt (p2 5) 0), (6, pt (p3 5) 0)]) (bx' := [⟨p1 0, 33, [.bool s0, .slice A0 n0 c0, .bool t0, .slice D0 m0 e0]⟩, ⟨p1 1, 33, [.bool s1, .slice A1 n1 c1, .bool t1, .slice D1 m1 e1]⟩, ⟨p1 2, 33, [.bool false, .slice none 0 0, .bool false, .slice none 0 0]⟩, ⟨p2 5, 31, [.bool s2_4, .slice A2_4 n2_4 c2_4]⟩, ⟨p3 5, 31, [.bool s3_4, .slice A3_4 n3_4 c3_4]⟩]) (rw' := []) (by kernel_rfl) (by kernel_rfl) (by kernel_rfl) ?_
  refine tri_seq ?_
  refine tri_reg mixed [.con (.agg #[.bool s2_4, .slice A2_4 n2_4 c2_4]), .con (.agg #[.bool s3_4, .slice A3_4 n3_4 c3_4]), .opq (fun u r => Cv u r ((a * d) + (c * b))), .con (pt (p1 0) 2), .con (.agg #[.bool t0, .slice D0 m0 e0]), .con (pt (p1 1) 2), .con (.agg #[.bool t1, .slice D1 m1 e1]), .opq (fun u r => Cv u r (b * d)), .opq (fun u r => CQv u r ((((a * d) + (c * b) : Int) : Rat) / ((b * d : Int) : Rat))), .sto ⟨2, 0, .op 8⟩] [4] [2] [] ?_ (by decide) ?_ ?_ _ _
  · kernel_rfl
  · exact ⟨ld 3 0 2 ty31, ld 4 0 2 ty31, ca (Cv.m _) fun f u w hs => (r02_Add ⟨_, _, _, _, rfl, (h2_4.sub hs.old).gi (zl_mul h0.zl k1.zl)⟩ ⟨_, _, _, _, rfl, (h3_4.sub hs.old).gi (zl_mul h1.zl k0.zl)⟩ (by omega) (by omega)), pu, ld 0 2 2 ty31, pu, ld 1 2 2 ty31, ca (Cv.m _) fun f u w hs => (r02_Mul ⟨_, _, _, _, rfl, k0.sub hs.old⟩ ⟨_, _, _, _, rfl, k1.sub hs.old⟩ (by omega) (by omega)), ca (CQv.m _) fun f u w hs => (r03_Make ((hs.opq 2 _ rfl rfl).iv (zl_add (zl_mul h0.zl k1.zl) (zl_mul h1.zl k0.zl))) ((hs.opq 7 _ rfl rfl).iv (zl_mul k0.zl k1.zl)) (by omega) (by omega) (by exact Int.mul_ne_zero hb hd)), st 2 0 4 ty33 (fun f u w hs => kn rfl (CQv.flat (hs.opq 8 _ rfl rfl))), trivial⟩
  rintro p4 x4 u4 hg4 ⟨q2, q7, q8, -⟩
  replace h0 := h0.sub hg4.1; replace h1 := h1.sub hg4.1; replace h2_4 := h2_4.sub hg4.1; replace h3_4 := h3_4.sub hg4.1; replace k0 := k0.sub hg4.1; replace k1 := k1.sub hg4.1
  have hG4 := hG3.trans hg4
  obtain ⟨s4_8, A4_8, n4_8, c4_8, t4_8, D4_8, m4_8, d4_8, e4_8, h4_8, k4_8⟩ := q8; rw [fun_upd (i := 8) e4_8]
  refine next (g' := [(4, pt (p1 2) 0)]) (bx' := [⟨p1 2, 33, [.bool s4_8, .slice A4_8 n4_8 c4_8, .bool t4_8, .slice D4_8 m4_8 d4_8]⟩]) (rw' := []) (by kernel_rfl) (by kernel_rfl) (by kernel_rfl) ?_
  exact tri_ret (ret1 rfl (.agg #[.bool s4_8, .slice A4_8 n4_8 c4_8, .bool t4_8, .slice D4_8 m4_8 d4_8]) (rv_cell 0 (p1 2) 4 33 [.bool s4_8, .slice A4_8 n4_8 c4_8, .bool t4_8, .slice D4_8 m4_8 d4_8] rfl rfl ty33 rfl rfl rfl) hG4 (⟨_, _, _, _, _, _, _, _, rfl, by rw [(rat_add hb hd)]; exact h4_8, by rw [(rat_add hb hd)]; exact k4_8⟩))

set_option maxRecDepth 100000 in
theorem r03_Mul {u : World} {a b c d : Int} {k l : Nat} {v0 : Value} {v1 : Value} (h0 : Qv u v0 a b k) (h1 : Qv u v1 c d l) (hk : k ≤ 137438953472) (hl : l ≤ 137438953472) (hb : b ≠ 0) (hd : d ≠ 0) : Fn Try.prog 70 #[v0, v1] u (fun u r => CQv u r (((a : Int) : Rat) / ((b : Int) : Rat) * (((c : Int) : Rat) / ((d : Int) : Rat)))) := by
  obtain ⟨s0, A0, n0, c0, t0, D0, m0, e0, rfl, h0, k0⟩ := h0
  obtain ⟨s1, A1, n1, c1, t1, D1, m1, e1, rfl, h1, k1⟩ := h1
  refine fn_of (args := [_, _]) Try.func70 rfl (by show 2 ≤ 16; decide) ?_
  intro w0 hs0
  have hG0 := Gr.refl w0.heap.size u
  refine tri_seq ?_
  refine tri_reg mixed [.new 33 [.bool s0, .slice A0 n0 c0, .bool t0, .slice D0 m0 e0], .new 33 [.bool s1, .slice A1 n1 c1, .bool t1, .slice D1 m1 e1], .new 33 [.bool false, .slice none 0 0, .bool false, .slice none 0 0]] [2, 3, 4] [0, 1, 2] [] ?_ (by decide) ?_ ?_ _ _
  · kernel_rfl
  · exact ⟨al, al, al, trivial⟩
  rintro p1 x1 u1 hg1 -
  replace h0 := h0.sub hg1.1; replace h1 := h1.sub hg1.1; replace k0 := k0.sub hg1.1; replace k1 := k1.sub hg1.1
  have hG1 := hG0.trans hg1
  refine next (g' := [(2, pt (p1 0) 0), (3, pt (p1 1) 0), (4, pt (p1 2) 0)]) (bx' := [⟨p1 0, 33, [.bool s0, .slice A0 n0 c0, .bool t0, .slice D0 m0 e0]⟩, ⟨p1 1, 33, [.bool s1, .slice A1 n1 c1, .bool t1, .slice D1 m1 e1]⟩, ⟨p1 2, 33, [.bool false, .slice none 0 0, .bool false, .slice none 0 0]⟩]) (rw' := []) (by kernel_rfl) (by kernel_rfl) (by kernel_rfl) ?_
  refine tri_seq ?_
  refine tri_reg mixed [.con (pt (p1 0) 0), .con (.agg #[.bool s0, .slice A0 n0 c0]), .con (pt (p1 1) 0), .con (.agg #[.bool s1, .slice A1 n1 c1]), .opq (fun u r => Cv u r (a * c)), .con (pt (p1 0) 2), .con (.agg #[.bool t0, .slice D0 m0 e0]), .con (pt (p1 1) 2), .con (.agg #[.bool t1, .slice D1 m1 e1]), .opq (fun u r => Cv u r (b * d)), .opq (fun u r => CQv u r (((a * c : Int) : Rat) / ((b * d : Int) : Rat))), .sto ⟨2, 0, .op 10⟩] [4] [2] [] ?_ (by decide) ?_ ?_ _ _
  · kernel_rfl
  · exact ⟨pu, ld 0 0 2 ty31, pu, ld 1 0 2 ty31, ca (Cv.m _) fun f u w hs => (r02_Mul ⟨_, _, _, _, rfl, h0.sub hs.old⟩ ⟨_, _, _, _, rfl, h1.sub hs.old⟩ (by omega) (by omega)), pu, ld 0 2 2 ty31, pu, ld 1 2 2 ty31, ca (Cv.m _) fun f u w hs => (r02_Mul ⟨_, _, _, _, rfl, k0.sub hs.old⟩ ⟨_, _, _, _, rfl, k1.sub hs.old⟩ (by omega) (by omega)), ca (CQv.m _) fun f u w hs => (r03_Make ((hs.opq 4 _ rfl rfl).iv (zl_mul h0.zl h1.zl)) ((hs.opq 9 _ rfl rfl).iv (zl_mul k0.zl k1.zl)) (by omega) (by omega) (by exact Int.mul_ne_zero hb hd)), st 2 0 4 ty33 (fun f u w hs => kn rfl (CQv.flat (hs.opq 10 _ rfl rfl))), trivial⟩
  rintro p2 x2 u2 hg2 ⟨q4, q9, q10, -⟩
  replace h0 := h0.sub hg2.1; replace h1 := h1.sub hg2.1; replace k0 := k0.sub hg2.1; replace k1 := k1.sub hg2.1
  have hG2 := hG1.trans hg2
  obtain ⟨s2_10, A2_10, n2_10, c2_10, t2_10, D2_10, m2_10, d2_10, e2_10, h2_10, k2_10⟩ := q10; rw [fun_upd (i := 10) e2_10]
  refine next (g' := [(4, pt (p1 2) 0)]) (bx' := [⟨p1 2, 33, [.bool s2_10, .slice A2_10 n2_10 c2_10, .bool t2_10, .slice D2_10 m2_10 d2_10]⟩]) (rw' := []) (by kernel_rfl) (by kernel_rfl) (by kernel_rfl) ?_
  exact tri_ret (ret1 rfl (.agg #[.bool s2_10, .slice A2_10 n2_10 c2_10, .bool t2_10, .slice D2_10 m2_10 d2_10]) (rv_cell 0 (p1 2) 4 33 [.bool s2_10, .slice A2_10 n2_10 c2_10, .bool t2_10, .slice D2_10 m2_10 d2_10] rfl rfl ty33 rfl rfl rfl) hG2 (⟨_, _, _, _, _, _, _, _, rfl, by rw [(rat_mul hb hd)]; exact h2_10, by rw [(rat_mul hb hd)]; exact k2_10⟩))

set_option maxRecDepth 100000 in
theorem r03_Neg {u : World} {a b : Int} {k : Nat} {v0 : Value} (h0 : Qv u v0 a b k) (hk : k ≤ 137438953472) (hb : b ≠ 0) : Fn Try.prog 114 #[v0] u (fun u r => CQv u r (-(((a : Int) : Rat) / ((b : Int) : Rat)))) := by
  obtain ⟨s0, A0, n0, c0, t0, D0, m0, e0, rfl, h0, k0⟩ := h0
  refine fn_of (args := [_]) Try.func114 rfl (by show 1 ≤ 9; decide) ?_
  intro w0 hs0
  have hG0 := Gr.refl w0.heap.size u
  refine tri_seq ?_
  refine tri_reg mixed [.new 33 [.bool s0, .slice A0 n0 c0, .bool t0, .slice D0 m0 e0], .new 33 [.bool false, .slice none 0 0, .bool false, .slice none 0 0]] [1, 2] [0, 1] [] ?_ (by decide) ?_ ?_ _ _
  · kernel_rfl
  · exact ⟨al, al, trivial⟩
  rintro p1 x1 u1 hg1 -
  replace h0 := h0.sub hg1.1; replace k0 := k0.sub hg1.1
  have hG1 := hG0.trans hg1
  refine next (g' := [(1, pt (p1 0) 0), (2, pt (p1 1) 0)]) (bx' := [⟨p1 0, 33, [.bool s0, .slice A0 n0 c0, .bool t0, .slice D0 m0 e0]⟩, ⟨p1 1, 33, [.bool false, .slice none 0 0, .bool false, .slice none 0 0]⟩]) (rw' := []) (by kernel_rfl) (by kernel_rfl) (by kernel_rfl) ?_
  refine tri_seq ?_
  refine tri_reg mixed [.con (pt (p1 0) 0), .con (.agg #[.bool s0, .slice A0 n0 c0]), .opq (fun u r => Cv u r (-a)), .con (pt (p1 0) 2), .con (.agg #[.bool t0, .slice D0 m0 e0]), .opq (fun u r => CQv u r (((-a : Int) : Rat) / ((b : Int) : Rat))), .sto ⟨1, 0, .op 5⟩] [2] [1] [] ?_ (by decide) ?_ ?_ _ _
  · kernel_rfl
  · exact ⟨pu, ld 0 0 2 ty31, ca (Cv.m _) fun f u w hs => (r02_Neg ⟨_, _, _, _, rfl, h0.sub hs.old⟩ (by omega)), pu, ld 0 2 2 ty31, ca (CQv.m _) fun f u w hs => (r03_Make ((hs.opq 2 _ rfl rfl).iv (zl_neg h0.zl)) ⟨_, _, _, _, rfl, k0.sub hs.old⟩ (by omega) (by omega) (by exact hb)), st 1 0 4 ty33 (fun f u w hs => kn rfl (CQv.flat (hs.opq 5 _ rfl rfl))), trivial⟩
  rintro p2 x2 u2 hg2 ⟨q2, q5, -⟩
  replace h0 := h0.sub hg2.1; replace k0 := k0.sub hg2.1
  have hG2 := hG1.trans hg2
  obtain ⟨s2_5, A2_5, n2_5, c2_5, t2_5, D2_5, m2_5, d2_5, e2_5, h2_5, k2_5⟩ := q5; rw [fun_upd (i := 5) e2_5]
  refine next (g' := [(2, pt (p1 1) 0)]) (bx' := [⟨p1 1, 33, [.bool s2_5, .slice A2_5 n2_5 c2_5, .bool t2_5, .slice D2_5 m2_5 d2_5]⟩]) (rw' := []) (by kernel_rfl) (by kernel_rfl) (by kernel_rfl) ?_
  exact tri_ret (ret1 rfl (.agg #[.bool s2_5, .slice A2_5 n2_5 c2_5, .bool t2_5, .slice D2_5 m2_5 d2_5]) (rv_cell 0 (p1 1) 4 33 [.bool s2_5, .slice A2_5 n2_5 c2_5, .bool t2_5, .slice D2_5 m2_5 d2_5] rfl rfl ty33 rfl rfl rfl) hG2 (⟨_, _, _, _, _, _, _, _, rfl, by rw [rat_opp]; exact h2_5, by rw [rat_opp]; exact k2_5⟩))

set_option maxRecDepth 100000 in
theorem r03_Sub {u : World} {a b c d : Int} {k l : Nat} {v0 : Value} {v1 : Value} (h0 : Qv u v0 a b k) (h1 : Qv u v1 c d l) (hk : k ≤ 137438953472) (hl : l ≤ 137438953472) (hb : b ≠ 0) (hd : d ≠ 0) : Fn Try.prog 69 #[v0, v1] u (fun u r => CQv u r (((a : Int) : Rat) / ((b : Int) : Rat) - (((c : Int) : Rat) / ((d : Int) : Rat)))) := by
  obtain ⟨s0, A0, n0, c0, t0, D0, m0, e0, rfl, h0, k0⟩ := h0
  obtain ⟨s1, A1, n1, c1, t1, D1, m1, e1, rfl, h1, k1⟩ := h1
  refine fn_of (args := [_, _]) Try.func69 rfl (by show 2 ≤ 9; decide) ?_
  intro w0 hs0
  have hG0 := Gr.refl w0.heap.size u
  refine tri_seq ?_
  refine tri_reg mixed [.new 33 [.bool s0, .slice A0 n0 c0, .bool t0, .slice D0 m0 e0], .new 33 [.bool s1, .slice A1 n1 c1, .bool t1, .slice D1 m1 e1], .new 33 [.bool false, .slice none 0 0, .bool false, .slice none 0 0]] [2, 3, 4] [0, 1, 2] [] ?_ (by decide) ?_ ?_ _ _
  · kernel_rfl
  · exact ⟨al, al, al, trivial⟩
  rintro p1 x1 u1 hg1 -
  replace h0 := h0.sub hg1.1; replace h1 := h1.sub hg1.1; replace k0 := k0.sub hg1.1; replace k1 := k1.sub hg1.1
  have hG1 := hG0.trans hg1
  refine next (g' := [(2, pt (p1 0) 0), (3, pt (p1 1) 0), (4, pt (p1 2) 0)]) (bx' := [⟨p1 0, 33, [.bool s0, .slice A0 n0 c0, .bool t0, .slice D0 m0 e0]⟩, ⟨p1 1, 33, [.bool s1, .slice A1 n1 c1, .bool t1, .slice D1 m1 e1]⟩, ⟨p1 2, 33, [.bool false, .slice none 0 0, .bool false, .slice none 0 0]⟩]) (rw' := []) (by kernel_rfl) (by kernel_rfl) (by kernel_rfl) ?_
  refine tri_seq ?_
  refine tri_reg mixed [.con (.agg #[.bool s0, .slice A0 n0 c0, .bool t0, .slice D0 m0 e0]), .con (.agg #[.bool s1, .slice A1 n1 c1, .bool t1, .slice D1 m1 e1]), .opq (fun u r => CQv u r (-(((c : Int) : Rat) / ((d : Int) : Rat)))), .opq (fun u r => CQv u r ((((a : Int) : Rat) / ((b : Int) : Rat)) + (-(((c : Int) : Rat) / ((d : Int) : Rat))))), .sto ⟨2, 0, .op 3⟩] [4] [2] [] ?_ (by decide) ?_ ?_ _ _
  · kernel_rfl
  · exact ⟨ld 0 0 4 ty33, ld 1 0 4 ty33, ca (CQv.m _) fun f u w hs => (r03_Neg ⟨_, _, _, _, _, _, _, _, rfl, (h1.sub hs.old), (k1.sub hs.old)⟩ (by omega) (by first | exact hb | exact hd)), ca (CQv.m _) fun f u w hs => (fn_cq (by simp only [rat_of]) (r03_Add ⟨_, _, _, _, _, _, _, _, rfl, (h0.sub hs.old), (k0.sub hs.old)⟩ ((hs.opq 2 _ rfl rfl).qv (qb_neg (qb_div0 h1.zl k1.zl (by first | exact hb | exact hd)))) (by omega) (by omega) (by first | exact hb | exact hd) (rden_nz _))), st 2 0 4 ty33 (fun f u w hs => kn rfl (CQv.flat (hs.opq 3 _ rfl rfl))), trivial⟩
  rintro p2 x2 u2 hg2 ⟨q2, q3, -⟩
  replace h0 := h0.sub hg2.1; replace h1 := h1.sub hg2.1; replace k0 := k0.sub hg2.1; replace k1 := k1.sub hg2.1
  have hG2 := hG1.trans hg2
  obtain ⟨s2_3, A2_3, n2_3, c2_3, t2_3, D2_3, m2_3, d2_3, e2_3, h2_3, k2_3⟩ := q3; rw [fun_upd (i := 3) e2_3]
  refine next (g' := [(4, pt (p1 2) 0)]) (bx' := [⟨p1 2, 33, [.bool s2_3, .slice A2_3 n2_3 c2_3, .bool t2_3, .slice D2_3 m2_3 d2_3]⟩]) (rw' := []) (by kernel_rfl) (by kernel_rfl) (by kernel_rfl) ?_
  exact tri_ret (ret1 rfl (.agg #[.bool s2_3, .slice A2_3 n2_3 c2_3, .bool t2_3, .slice D2_3 m2_3 d2_3]) (rv_cell 0 (p1 2) 4 33 [.bool s2_3, .slice A2_3 n2_3 c2_3, .bool t2_3, .slice D2_3 m2_3 d2_3] rfl rfl ty33 rfl rfl rfl) hG2 (⟨_, _, _, _, _, _, _, _, rfl, by rw [Rat.sub_eq_add_neg]; exact h2_3, by rw [Rat.sub_eq_add_neg]; exact k2_3⟩))

set_option maxRecDepth 100000 in
theorem r03_Cmp {u : World} {a b c d : Int} {k l : Nat} {v0 : Value} {v1 : Value} (h0 : Qv u v0 a b k) (h1 : Qv u v1 c d l) (hk : k ≤ 137438953472) (hl : l ≤ 137438953472) (hb : b ≠ 0) (hd : d ≠ 0) : Fn Try.prog 71 #[v0, v1] u (Is (.int .i64 (sg (((a : Int) : Rat) / ((b : Int) : Rat) - (((c : Int) : Rat) / ((d : Int) : Rat))).num))) := by
  obtain ⟨s0, A0, n0, c0, t0, D0, m0, e0, rfl, h0, k0⟩ := h0
  obtain ⟨s1, A1, n1, c1, t1, D1, m1, e1, rfl, h1, k1⟩ := h1
  refine fn_of (args := [_, _]) Try.func71 rfl (by show 2 ≤ 10; decide) ?_
  intro w0 hs0
  have hG0 := Gr.refl w0.heap.size u
  refine tri_seq ?_
  refine tri_reg mixed [.new 33 [.bool s0, .slice A0 n0 c0, .bool t0, .slice D0 m0 e0], .new 33 [.bool s1, .slice A1 n1 c1, .bool t1, .slice D1 m1 e1], .con (.int .i64 0)] [2, 3] [0, 1] [] ?_ (by decide) ?_ ?_ _ _
  · kernel_rfl
  · exact ⟨al, al, pu, trivial⟩
  rintro p1 x1 u1 hg1 -
  replace h0 := h0.sub hg1.1; replace h1 := h1.sub hg1.1; replace k0 := k0.sub hg1.1; replace k1 := k1.sub hg1.1
  have hG1 := hG0.trans hg1
  refine next (g' := [(2, pt (p1 0) 0), (3, pt (p1 1) 0)]) (bx' := [⟨p1 0, 33, [.bool s0, .slice A0 n0 c0, .bool t0, .slice D0 m0 e0]⟩, ⟨p1 1, 33, [.bool s1, .slice A1 n1 c1, .bool t1, .slice D1 m1 e1]⟩]) (rw' := []) (by kernel_rfl) (by kernel_rfl) (by kernel_rfl) ?_
  refine tri_seq ?_
  refine tri_reg mixed [.con (.agg #[.bool s0, .slice A0 n0 c0, .bool t0, .slice D0 m0 e0]), .con (.agg #[.bool s1, .slice A1 n1 c1, .bool t1, .slice D1 m1 e1]), .opq (fun u r => CQv u r ((((a : Int) : Rat) / ((b : Int) : Rat)) - (((c : Int) : Rat) / ((d : Int) : Rat)))), .opq (fun u r => Cv u r ((((((a : Int) : Rat) / ((b : Int) : Rat)) - (((c : Int) : Rat) / ((d : Int) : Rat)))).num)), .con (.int .i64 (sg ((((((a : Int) : Rat) / ((b : Int) : Rat)) - (((c : Int) : Rat) / ((d : Int) : Rat)))).num))), .con (.int .i64 (sg ((((((a : Int) : Rat) / ((b : Int) : Rat)) - (((c : Int) : Rat) / ((d : Int) : Rat)))).num)))] [4] [] [] ?_ (by decide) ?_ ?_ _ _
  · kernel_rfl
  · exact ⟨ld 0 0 4 ty33, ld 1 0 4 ty33, ca (CQv.m _) fun f u w hs => (r03_Sub ⟨_, _, _, _, _, _, _, _, rfl, (h0.sub hs.old), (k0.sub hs.old)⟩ ⟨_, _, _, _, _, _, _, _, rfl, (h1.sub hs.old), (k1.sub hs.old)⟩ (by omega) (by omega) (by first | exact hb | exact hd) (by first | exact hb | exact hd)), bqX (Cv.m _) fun f u w hs => by obtain ⟨s__f, A__f, n__f, c__f, t__f, D__f, m__f, d__f, e__f, h__f, k__f⟩ := hs.opq 2 _ rfl rfl; exact ⟨.agg #[.bool s__f, .slice A__f n__f c__f], ⟨_, _, _, _, rfl, h__f⟩, by rw [fun_upd e__f]; kernel_rfl⟩, cc fun f u w hs => (r02_Sign ((hs.opq 3 _ rfl rfl).iv (zl_num (qb_sub (qb_div0 h0.zl k0.zl (by first | exact hb | exact hd)) (qb_div0 h1.zl k1.zl (by first | exact hb | exact hd))))) (by omega)), pu, trivial⟩
  rintro p2 x2 u2 hg2 ⟨q2, q3, -⟩
  replace h0 := h0.sub hg2.1; replace h1 := h1.sub hg2.1; replace k0 := k0.sub hg2.1; replace k1 := k1.sub hg2.1
  have hG2 := hG1.trans hg2
  refine next (g' := [(4, .int .i64 (sg ((((((a : Int) : Rat) / ((b : Int) : Rat)) - (((c : Int) : Rat) / ((d : Int) : Rat)))).num)))]) (bx' := []) (rw' := []) (by kernel_rfl) (by kernel_rfl) (by kernel_rfl) ?_
  exact tri_ret (ret1 rfl (.int .i64 (sg ((((((a : Int) : Rat) / ((b : Int) : Rat)) - (((c : Int) : Rat) / ((d : Int) : Rat)))).num))) rfl hG2 (rfl))

set_option maxRecDepth 100000 in
theorem r03_Floor {u : World} {a b : Int} {k : Nat} {v0 : Value} (h0 : Qv u v0 a b k) (hk : k ≤ 137438953472) (hb : b ≠ 0) : Fn Try.prog 68 #[v0] u (fun u r => Cv u r (Int.fdiv a b)) := by
  obtain ⟨s0, A0, n0, c0, t0, D0, m0, e0, rfl, h0, k0⟩ := h0
  refine fn_of (args := [_]) Try.func68 rfl (by show 1 ≤ 14; decide) ?_
  intro w0 hs0
  have hG0 := Gr.refl w0.heap.size u
  refine tri_seq ?_
  refine tri_reg mixed [.new 33 [.bool s0, .slice A0 n0 c0, .bool t0, .slice D0 m0 e0], .new 31 [.bool false, .slice none 0 0]] [1, 2] [0, 1] [] ?_ (by decide) ?_ ?_ _ _
  · kernel_rfl
  · exact ⟨al, al, trivial⟩
  rintro p1 x1 u1 hg1 -
  replace h0 := h0.sub hg1.1; replace k0 := k0.sub hg1.1
  have hG1 := hG0.trans hg1
  refine next (g' := [(1, pt (p1 0) 0), (2, pt (p1 1) 0)]) (bx' := [⟨p1 0, 33, [.bool s0, .slice A0 n0 c0, .bool t0, .slice D0 m0 e0]⟩, ⟨p1 1, 31, [.bool false, .slice none 0 0]⟩]) (rw' := []) (by kernel_rfl) (by kernel_rfl) (by kernel_rfl) ?_
  refine tri_seq ?_
  refine tri_reg mixed [.con (pt (p1 0) 0), .con (.agg #[.bool s0, .slice A0 n0 c0]), .con (pt (p1 0) 2), .con (.agg #[.bool t0, .slice D0 m0 e0]), .opq (Tup2 (fun u r => Cv u r (Int.fdiv a b)) (fun u r => Cv u r (Int.fmod a b))), .opq (Tup2 (fun u r => Cv u r (Int.fdiv a b)) (fun u r => Cv u r (Int.fmod a b))), .opq (fun u r => Cv u r (Int.fdiv a b)), .opq (fun u r => Cv u r (Int.fmod a b)), .new 31 [.bool false, .slice none 0 0], .new 31 [.bool false, .slice none 0 0], .sto ⟨10, 0, .op 6⟩, .sto ⟨11, 0, .op 7⟩] [2, 3] [1, 10] [] ?_ (by decide) ?_ ?_ _ _
  · kernel_rfl
  · exact ⟨pu, ld 0 0 2 ty31, pu, ld 0 2 2 ty31, ca (Tup2.mono (Cv.m _) (Cv.m _)) fun f u w hs => (r02_Floor ⟨_, _, _, _, rfl, h0.sub hs.old⟩ ⟨_, _, _, _, rfl, k0.sub hs.old⟩ (by omega) (by omega) (by exact hb)), mv 4 (Tup2.mono (Cv.m _) (Cv.m _)), ex2a 5 (Cv.m _), ex2b 5 (Cv.m _), al, al, sn 8 2 ty31 (fun f u w hs => kn rfl (Cv.flat (hs.opq 6 _ rfl rfl))), sn 9 2 ty31 (fun f u w hs => kn rfl (Cv.flat (hs.opq 7 _ rfl rfl))), trivial⟩
  rintro p2 x2 u2 hg2 ⟨q4, q5, q6, q7, -⟩
  replace h0 := h0.sub hg2.1; replace k0 := k0.sub hg2.1
  have hG2 := hG1.trans hg2
  obtain ⟨s2_6, A2_6, n2_6, c2_6, e2_6, h2_6⟩ := q6; rw [fun_upd (i := 6) e2_6]
  obtain ⟨s2_7, A2_7, n2_7, c2_7, e2_7, h2_7⟩ := q7; rw [fun_upd (i := 7) e2_7]
  refine next (g' := [(2, pt (p1 1) 0), (3, pt (p2 8) 0)]) (bx' := [⟨p1 1, 31, [.bool false, .slice none 0 0]⟩, ⟨p2 8, 31, [.bool s2_6, .slice A2_6 n2_6 c2_6]⟩]) (rw' := []) (by kernel_rfl) (by kernel_rfl) (by kernel_rfl) ?_
  refine tri_seq ?_
  refine tri_reg mixed [.con (.agg #[.bool s2_6, .slice A2_6 n2_6 c2_6]), .sto ⟨0, 0, .op 0⟩] [2] [0] [] ?_ (by decide) ?_ ?_ _ _
  · kernel_rfl
  · exact ⟨ld 1 0 2 ty31, st 0 0 2 ty31 (fun f u w hs => kn rfl ⟨rfl, rfl⟩), trivial⟩
  rintro p3 x3 u3 hg3 -
  replace h2_6 := h2_6.sub hg3.1
  have hG3 := hG2.trans hg3
  refine next (g' := [(2, pt (p1 1) 0)]) (bx' := [⟨p1 1, 31, [.bool s2_6, .slice A2_6 n2_6 c2_6]⟩]) (rw' := []) (by kernel_rfl) (by kernel_rfl) (by kernel_rfl) ?_
  exact tri_ret (ret1 rfl (.agg #[.bool s2_6, .slice A2_6 n2_6 c2_6]) (rv_cell 0 (p1 1) 2 31 [.bool s2_6, .slice A2_6 n2_6 c2_6] rfl rfl ty31 rfl rfl rfl) hG3 (⟨_, _, _, _, rfl, h2_6⟩))

theorem fn_is2 {P : Program} {f : Nat} {args : Array Value} {u : World} {c c' : Value} (h : c = c') (H : Fn P f args u (Is c')) : Fn P f args u (Is c) := by rw [h]; exact H

set_option maxRecDepth 100000 in
theorem r03_Valid {u : World} {a b : Int} {k : Nat} {v0 : Value} (h0 : Qv u v0 a b k) (hk : k ≤ 137438953472) : Fn Try.prog 27 #[v0] u (Is (.bool (decide (0 < sg b)))) := by
  obtain ⟨s0, A0, n0, c0, t0, D0, m0, e0, rfl, h0, k0⟩ := h0
  refine fn_of (args := [_]) Try.func27 rfl (by show 1 ≤ 7; decide) ?_
  intro w0 hs0
  have hG0 := Gr.refl w0.heap.size u
  refine tri_seq ?_
  refine tri_reg mixed [.new 33 [.bool s0, .slice A0 n0 c0, .bool t0, .slice D0 m0 e0], .con (.bool false)] [1] [0] [] ?_ (by decide) ?_ ?_ _ _
  · kernel_rfl
  · exact ⟨al, pu, trivial⟩
  rintro p1 x1 u1 hg1 -
  replace h0 := h0.sub hg1.1; replace k0 := k0.sub hg1.1
  have hG1 := hG0.trans hg1
  refine next (g' := [(1, pt (p1 0) 0)]) (bx' := [⟨p1 0, 33, [.bool s0, .slice A0 n0 c0, .bool t0, .slice D0 m0 e0]⟩]) (rw' := []) (by kernel_rfl) (by kernel_rfl) (by kernel_rfl) ?_
  refine tri_seq ?_
  refine tri_reg mixed [.con (pt (p1 0) 2), .con (.agg #[.bool t0, .slice D0 m0 e0]), .con (.int .i64 (sg b)), .con (.bool (decide (0 < (sg b)))), .con (.bool (decide (0 < (sg b))))] [2] [] [] ?_ (by decide) ?_ ?_ _ _
  · kernel_rfl
  · exact ⟨pu, ld 0 2 2 ty31, cc fun f u w hs => (r02_Sign ⟨_, _, _, _, rfl, k0.sub hs.old⟩ (by omega)), pu, pu, trivial⟩
  rintro p2 x2 u2 hg2 -
  replace h0 := h0.sub hg2.1; replace k0 := k0.sub hg2.1
  have hG2 := hG1.trans hg2
  refine next (g' := [(2, .bool (decide (0 < (sg b))))]) (bx' := []) (rw' := []) (by kernel_rfl) (by kernel_rfl) (by kernel_rfl) ?_
  exact tri_ret (ret1 rfl (.bool (decide (0 < (sg b)))) rfl hG2 (rfl))

set_option maxRecDepth 100000 in
theorem r_valid {u : World} {l : List (Int × Int)} {k : Nat} {v0 : Value} (h0 : Sl (dGq k) u v0 l) (hk : k ≤ 137438953472) (hall : ∀ i, i < l.length → 0 < (l.getD i (0, 0)).2) : Fn Try.prog 149 #[v0] u (Is (.int .i64 0)) := by
  obtain ⟨A0, n0, c0, rfl, h0, l0⟩ := sl_open h0; have j0 := h0.len.2
  refine fn_of (args := [_]) Try.func149 rfl (by show 1 ≤ 16; decide) ?_
  intro w0 hs0
  have hG0 := Gr.refl w0.heap.size u
  refine tri_seq ?_
  refine tri_reg mixed [.con (.int .i64 0)] [0] [] [] ?_ (by decide) ?_ ?_ _ _
  · kernel_rfl
  · exact ⟨pu, trivial⟩
  rintro p1 x1 u1 hg1 -
  replace h0 := h0.sub (dGqk k) hg1.1
  have hG1 := hG0.trans hg1
  refine next (g' := [(0, .slice A0 n0 c0)]) (bx' := []) (rw' := []) (by kernel_rfl) (by kernel_rfl) (by kernel_rfl) ?_
  refine tri_seq ?_
  refine tri_seq ?_
  refine tri_reg mixed [.con (.slice A0 n0 c0), .con (.int .i64 (n0 : Int)), .con (.int .i64 0)] [5, 6, 7] [] [] ?_ (by decide) ?_ ?_ _ _
  · kernel_rfl
  · exact ⟨pu, pu, pu, trivial⟩
  rintro p2 x2 u2 hg2 -
  replace h0 := h0.sub (dGqk k) hg2.1
  have hG2 := hG1.trans hg2
  refine next (g' := [(5, .slice A0 n0 c0), (6, .int .i64 (n0 : Int)), (7, .int .i64 0)]) (bx' := []) (rw' := []) (by kernel_rfl) (by kernel_rfl) (by kernel_rfl) ?_
  refine tri_block ?_
  refine tri_loop (fun m_ g_ bx_ rw_ u_ => ∃ (i : Nat), (m_ = n0 - i ∧ Gr w0.heap.size u2 u_ ∧ i ≤ n0 ∧ g_ = [(5, .slice A0 n0 c0), (6, .int .i64 (n0 : Int)), (7, .int .i64 (i : Int))] ∧ bx_ = [] ∧ rw_ = [])) (n0 - 0) ⟨0, rfl, Gr.refl _ _, Nat.zero_le _, rfl, rfl, rfl⟩ ?_
  rintro m_ g_ bx_ rw_ u3 ⟨i, hm_, hg3, hi, rfl, rfl, rfl⟩
  replace h0 := h0.sub (dGqk k) hg3.1
  have hG3 := hG2.trans hg3
  refine tri_seq ?_
  refine tri_reg mixed [.con (.bool (decide ((i : Int) < (n0 : Int))))] [5, 6, 7, 8] [] [] ?_ (by decide) ?_ ?_ _ _
  · kernel_rfl
  · exact ⟨pu, trivial⟩
  rintro p4 x4 u4 hg4 -
  replace h0 := h0.sub (dGqk k) hg4.1
  have hG4 := hG3.trans hg4
  refine next (g' := [(5, .slice A0 n0 c0), (6, .int .i64 (n0 : Int)), (7, .int .i64 (i : Int)), (8, .bool (decide ((i : Int) < (n0 : Int))))]) (bx' := []) (rw' := []) (by kernel_rfl) (by kernel_rfl) (by kernel_rfl) ?_
  refine tri_seq ?_
  refine tri_cond (b := (decide ((i : Int) < (n0 : Int)))) rfl (fun hc => ?_) (fun hc => ?_)
  · replace hc := of_decide_eq_true hc
    refine tri_skip ?_
    refine next rfl rfl rfl ?_
    refine tri_seq ?_
    refine tri_block ?_
    refine tri_seq ?_
    obtain ⟨ad6, s6z, A6z, n6z, c6z, t6z, D6z, m6z, e6z, ha6, he6, hf6, hc6e⟩ := gq_at h0 i (by omega)
    refine tri_reg mixed [.con (.pointer (some (ad6.add (((i : Int) : Int).toNat * 4)))), .con (.agg #[.bool s6z, .slice A6z n6z c6z, .bool t6z, .slice D6z m6z e6z]), .new 33 [.bool false, .slice none 0 0, .bool false, .slice none 0 0], .sto ⟨2, 0, .op 1⟩] [4, 5, 6, 7] [2] [] ?_ (by decide) ?_ ?_ _ _
    · kernel_rfl
    · exact ⟨ix (kk := .i64) (n := n0) (c := c0) sl28 ha6 (by omega) (by omega), li ty33 (vs := [.bool s6z, .slice A6z n6z c6z, .bool t6z, .slice D6z m6z e6z]) hc6e rfl, al, sn 2 4 ty33 (fun f u w hs => kn rfl ⟨rfl, rfl⟩), trivial⟩
    rintro p5 x5 u5 hg5 -
    replace h0 := h0.sub (dGqk k) hg5.1; replace he6 := he6.sub hg5.1; replace hf6 := hf6.sub hg5.1
    have hG5 := hG4.trans hg5
    refine next (g' := [(4, pt (p5 2) 0), (5, .slice A0 n0 c0), (6, .int .i64 (n0 : Int)), (7, .int .i64 (i : Int))]) (bx' := [⟨p5 2, 33, [.bool s6z, .slice A6z n6z c6z, .bool t6z, .slice D6z m6z e6z]⟩]) (rw' := []) (by kernel_rfl) (by kernel_rfl) (by kernel_rfl) ?_
    refine tri_seq ?_
    have hpi := hall i (by omega)
    refine tri_reg mixed [.con (pt (p5 2) 2), .con (.agg #[.bool t6z, .slice D6z m6z e6z]), .con (.int .i64 (sg (((l).getD i (0, 0)).2))), .con (.bool false)] [5, 6, 7, 14] [] [] ?_ (by decide) ?_ ?_ _ _
    · kernel_rfl
    · exact ⟨pu, ld 0 2 2 ty31, cc fun f u w hs => (z_Sign ⟨_, _, _, _, rfl, hf6.sub hs.old⟩ (by omega)), pw (bf (p := (sg (((l).getD i (0, 0)).2)) ≤ 0) (by exact sg_gt hpi)), trivial⟩
    rintro p7 x7 u7 hg7 -
    replace h0 := h0.sub (dGqk k) hg7.1; replace he6 := he6.sub hg7.1; replace hf6 := hf6.sub hg7.1
    have hG7 := hG5.trans hg7
    refine next (g' := [(5, .slice A0 n0 c0), (6, .int .i64 (n0 : Int)), (7, .int .i64 (i : Int)), (14, .bool false)]) (bx' := []) (rw' := []) (by kernel_rfl) (by kernel_rfl) (by kernel_rfl) ?_
    refine tri_false rfl ?_
    refine tri_skip ?_
    refine pn_blk ?_
    refine next rfl rfl rfl ?_
    refine tri_reg mixed [.con (.int .i64 ((i : Int) + 1)), .con (.int .i64 ((i : Int) + 1))] [5, 6, 7] [] [] ?_ (by decide) ?_ ?_ _ _
    · kernel_rfl
    · exact ⟨pw (w64 (n := (i : Int) + 1) (by omega)), pu, trivial⟩
    rintro p8 x8 u8 hg8 -
    replace h0 := h0.sub (dGqk k) hg8.1
    have hG8 := hG7.trans hg8
    exact PN.sub (g' := [(5, .slice A0 n0 c0), (6, .int .i64 (n0 : Int)), (7, .int .i64 ((i + 1) : Int))]) (bx' := []) (rw' := []) ⟨rfl, rfl, (by first | rfl | (simp)), trivial⟩ rfl rfl (pn_at (m' := n0 - (i + 1)) (by omega) ⟨i + 1, rfl, ((((hg3).trans hg4).trans hg5).trans hg7).trans hg8, by omega, rfl, rfl, rfl⟩)
  · replace hc := of_decide_eq_false hc
    refine tri_exit ?_
    repeat refine pn_then (by simp) ?_
    refine pn_ex ?_
    refine next rfl rfl rfl ?_
    refine tri_seq ?_
    refine tri_reg mixed [.con (.int .i64 0)] [2] [] [] ?_ (by decide) ?_ ?_ _ _
    · kernel_rfl
    · exact ⟨pu, trivial⟩
    rintro p9 x9 u9 hg9 -
    replace h0 := h0.sub (dGqk k) hg9.1
    have hG9 := hG4.trans hg9
    refine next (g' := [(2, .int .i64 0)]) (bx' := []) (rw' := []) (by kernel_rfl) (by kernel_rfl) (by kernel_rfl) ?_
    exact tri_ret (ret1 rfl (.int .i64 0) rfl hG9 (rfl))

set_option maxRecDepth 100000 in
theorem r_twoAdd {u : World} {a b c d : Int} {k : Nat} {p q : Value} {q0 : Rat} {v0 : Value} {v1 : Value} (h0 : Qv u v0 a b k) (h1 : Qv u v1 c d k) (hk : k ≤ 137438953472) (hb : 0 < b) (hd : 0 < d) (hf : ∀ u2, Sub u u2 → Fn Try.prog 147 #[p, q] u2 (fun u r => CQv u r q0)) : Fn Try.prog 146 #[v0, v1, .func (.func 147) #[] #[p, q]] u (Tup2 (fun u r => CQv u r q0) (Is (.int .i64 0))) := by
  obtain ⟨s0, A0, n0, c0, t0, D0, m0, e0, rfl, h0, k0⟩ := h0
  obtain ⟨s1, A1, n1, c1, t1, D1, m1, e1, rfl, h1, k1⟩ := h1
  refine fn_of (args := [_, _, _]) Try.func146 rfl (by show 3 ≤ 19; decide) ?_
  intro w0 hs0
  have hG0 := Gr.refl w0.heap.size u
  refine tri_seq ?_
  refine tri_reg mixed [.new 33 [.bool s0, .slice A0 n0 c0, .bool t0, .slice D0 m0 e0], .new 33 [.bool s1, .slice A1 n1 c1, .bool t1, .slice D1 m1 e1], .new 33 [.bool false, .slice none 0 0, .bool false, .slice none 0 0], .con (.int .i64 0)] [2, 3, 4, 6] [0, 1, 2] [] ?_ (by decide) ?_ ?_ _ _
  · kernel_rfl
  · exact ⟨al, al, al, pu, trivial⟩
  rintro p1 x1 u1 hg1 -
  replace h0 := h0.sub hg1.1; replace h1 := h1.sub hg1.1; replace k0 := k0.sub hg1.1; replace k1 := k1.sub hg1.1
  have hG1 := hG0.trans hg1
  refine next (g' := [(2, .func (.func 147) #[] #[p, q]), (3, pt (p1 0) 0), (4, pt (p1 1) 0), (6, pt (p1 2) 0)]) (bx' := [⟨p1 0, 33, [.bool s0, .slice A0 n0 c0, .bool t0, .slice D0 m0 e0]⟩, ⟨p1 1, 33, [.bool s1, .slice A1 n1 c1, .bool t1, .slice D1 m1 e1]⟩, ⟨p1 2, 33, [.bool false, .slice none 0 0, .bool false, .slice none 0 0]⟩]) (rw' := []) (by kernel_rfl) (by kernel_rfl) (by kernel_rfl) ?_
  refine tri_seq ?_
  refine tri_seq ?_
  refine tri_reg mixed [.con (.agg #[.bool s0, .slice A0 n0 c0, .bool t0, .slice D0 m0 e0]), .con (.agg #[.bool s1, .slice A1 n1 c1, .bool t1, .slice D1 m1 e1]), .opq (fun u r => Sl (dGq k) u r [(a, b), (c, d)]), .con (.int .i64 0), .con (.int .i64 0)] [2, 6, 8] [2] [] ?_ (by decide) ?_ ?_ _ _
  · kernel_rfl
  · exact ⟨ld 0 0 4 ty33, ld 1 0 4 ty33, bsX (m := 2) (e := 33) (dGqk k) rfl (by decide) fun f u w hs => by exact ⟨[.bool s0, .slice A0 n0 c0, .bool t0, .slice D0 m0 e0, .bool s1, .slice A1 n1 c1, .bool t1, .slice D1 m1 e1], ⟨[.bool s0, .slice A0 n0 c0, .bool t0, .slice D0 m0 e0], _, rfl, ⟨_, _, _, _, _, _, _, _, rfl, (h0.sub hs.old), (k0.sub hs.old)⟩, ⟨[.bool s1, .slice A1 n1 c1, .bool t1, .slice D1 m1 e1], _, rfl, ⟨_, _, _, _, _, _, _, _, rfl, (h1.sub hs.old), (k1.sub hs.old)⟩, rfl⟩⟩, by kernel_rfl⟩, cc fun f u w hs => (r_valid (hs.opq 2 _ rfl rfl) (by omega) (by intro i hi; match i, hi with | 0, _ => exact hb | 1, _ => exact hd)), pu, trivial⟩
  rintro p2 x2 u2 hg2 ⟨q2, -⟩
  replace h0 := h0.sub hg2.1; replace h1 := h1.sub hg2.1; replace k0 := k0.sub hg2.1; replace k1 := k1.sub hg2.1
  have hG2 := hG1.trans hg2
  refine next (g' := [(2, .func (.func 147) #[] #[p, q]), (6, pt (p1 2) 0), (8, .int .i64 0)]) (bx' := [⟨p1 2, 33, [.bool false, .slice none 0 0, .bool false, .slice none 0 0]⟩]) (rw' := []) (by kernel_rfl) (by kernel_rfl) (by kernel_rfl) ?_
  refine tri_seq ?_
  refine tri_reg mixed [.con (.int .i64 0), .con (.bool false)] [2, 6, 8, 14] [0] [] ?_ (by decide) ?_ ?_ _ _
  · kernel_rfl
  · exact ⟨pu, pu, trivial⟩
  rintro p3 x3 u3 hg3 -
  have hG3 := hG2.trans hg3
  refine next (g' := [(2, .func (.func 147) #[] #[p, q]), (6, pt (p1 2) 0), (8, .int .i64 0), (14, .bool false)]) (bx' := [⟨p1 2, 33, [.bool false, .slice none 0 0, .bool false, .slice none 0 0]⟩]) (rw' := []) (by kernel_rfl) (by kernel_rfl) (by kernel_rfl) ?_
  refine tri_false rfl ?_
  refine tri_skip ?_
  refine next rfl rfl rfl ?_
  refine tri_seq ?_
  refine tri_reg mixed [.con (.func (.func 147) #[] #[p, q]), .opq (fun u r => CQv u r q0), .sto ⟨0, 0, .op 1⟩, .con (.int .i64 0)] [6, 7] [0] [] ?_ (by decide) ?_ ?_ _ _
  · kernel_rfl
  · exact ⟨pu, ca (CQv.m _) fun f u w hs => hf _ (hG3.1.trans hs.old), st 0 0 4 ty33 (fun f u w hs => kn rfl (CQv.flat (hs.opq 1 _ rfl rfl))), pu, trivial⟩
  rintro p4 x4 u4 hg4 ⟨q1, -⟩
  have hG4 := hG3.trans hg4
  obtain ⟨s4_1, A4_1, n4_1, c4_1, t4_1, D4_1, m4_1, d4_1, e4_1, h4_1, k4_1⟩ := q1; rw [fun_upd (i := 1) e4_1]
  refine next (g' := [(6, pt (p1 2) 0), (7, .int .i64 0)]) (bx' := [⟨p1 2, 33, [.bool s4_1, .slice A4_1 n4_1 c4_1, .bool t4_1, .slice D4_1 m4_1 d4_1]⟩]) (rw' := []) (by kernel_rfl) (by kernel_rfl) (by kernel_rfl) ?_
  exact tri_ret (ret2 rfl (.agg #[.bool s4_1, .slice A4_1 n4_1 c4_1, .bool t4_1, .slice D4_1 m4_1 d4_1]) (.int .i64 0) (rv_cell 0 (p1 2) 4 33 [.bool s4_1, .slice A4_1 n4_1 c4_1, .bool t4_1, .slice D4_1 m4_1 d4_1] rfl rfl ty33 rfl rfl rfl) rfl hG4 (⟨_, _, rfl, ⟨_, _, _, _, _, _, _, _, rfl, h4_1, k4_1⟩, rfl⟩))

set_option maxRecDepth 100000 in
theorem r_twoSub {u : World} {a b c d : Int} {k : Nat} {p q : Value} {q0 : Rat} {v0 : Value} {v1 : Value} (h0 : Qv u v0 a b k) (h1 : Qv u v1 c d k) (hk : k ≤ 137438953472) (hb : 0 < b) (hd : 0 < d) (hf : ∀ u2, Sub u u2 → Fn Try.prog 148 #[p, q] u2 (fun u r => CQv u r q0)) : Fn Try.prog 146 #[v0, v1, .func (.func 148) #[] #[p, q]] u (Tup2 (fun u r => CQv u r q0) (Is (.int .i64 0))) := by
  obtain ⟨s0, A0, n0, c0, t0, D0, m0, e0, rfl, h0, k0⟩ := h0
  obtain ⟨s1, A1, n1, c1, t1, D1, m1, e1, rfl, h1, k1⟩ := h1
  refine fn_of (args := [_, _, _]) Try.func146 rfl (by show 3 ≤ 19; decide) ?_
  intro w0 hs0
  have hG0 := Gr.refl w0.heap.size u
  refine tri_seq ?_
  refine tri_reg mixed [.new 33 [.bool s0, .slice A0 n0 c0, .bool t0, .slice D0 m0 e0], .new 33 [.bool s1, .slice A1 n1 c1, .bool t1, .slice D1 m1 e1], .new 33 [.bool false, .slice none 0 0, .bool false, .slice none 0 0], .con (.int .i64 0)] [2, 3, 4, 6] [0, 1, 2] [] ?_ (by decide) ?_ ?_ _ _
  · kernel_rfl
  · exact ⟨al, al, al, pu, trivial⟩
  rintro p1 x1 u1 hg1 -
  replace h0 := h0.sub hg1.1; replace h1 := h1.sub hg1.1; replace k0 := k0.sub hg1.1; replace k1 := k1.sub hg1.1
  have hG1 := hG0.trans hg1
  refine next (g' := [(2, .func (.func 148) #[] #[p, q]), (3, pt (p1 0) 0), (4, pt (p1 1) 0), (6, pt (p1 2) 0)]) (bx' := [⟨p1 0, 33, [.bool s0, .slice A0 n0 c0, .bool t0, .slice D0 m0 e0]⟩, ⟨p1 1, 33, [.bool s1, .slice A1 n1 c1, .bool t1, .slice D1 m1 e1]⟩, ⟨p1 2, 33, [.bool false, .slice none 0 0, .bool false, .slice none 0 0]⟩]) (rw' := []) (by kernel_rfl) (by kernel_rfl) (by kernel_rfl) ?_
  refine tri_seq ?_
  refine tri_seq ?_
  refine tri_reg mixed [.con (.agg #[.bool s0, .slice A0 n0 c0, .bool t0, .slice D0 m0 e0]), .con (.agg #[.bool s1, .slice A1 n1 c1, .bool t1, .slice D1 m1 e1]), .opq (fun u r => Sl (dGq k) u r [(a, b), (c, d)]), .con (.int .i64 0), .con (.int .i64 0)] [2, 6, 8] [2] [] ?_ (by decide) ?_ ?_ _ _
  · kernel_rfl
  · exact ⟨ld 0 0 4 ty33, ld 1 0 4 ty33, bsX (m := 2) (e := 33) (dGqk k) rfl (by decide) fun f u w hs => by exact ⟨[.bool s0, .slice A0 n0 c0, .bool t0, .slice D0 m0 e0, .bool s1, .slice A1 n1 c1, .bool t1, .slice D1 m1 e1], ⟨[.bool s0, .slice A0 n0 c0, .bool t0, .slice D0 m0 e0], _, rfl, ⟨_, _, _, _, _, _, _, _, rfl, (h0.sub hs.old), (k0.sub hs.old)⟩, ⟨[.bool s1, .slice A1 n1 c1, .bool t1, .slice D1 m1 e1], _, rfl, ⟨_, _, _, _, _, _, _, _, rfl, (h1.sub hs.old), (k1.sub hs.old)⟩, rfl⟩⟩, by kernel_rfl⟩, cc fun f u w hs => (r_valid (hs.opq 2 _ rfl rfl) (by omega) (by intro i hi; match i, hi with | 0, _ => exact hb | 1, _ => exact hd)), pu, trivial⟩
  rintro p2 x2 u2 hg2 ⟨q2, -⟩
  replace h0 := h0.sub hg2.1; replace h1 := h1.sub hg2.1; replace k0 := k0.sub hg2.1; replace k1 := k1.sub hg2.1
  have hG2 := hG1.trans hg2
  refine next (g' := [(2, .func (.func 148) #[] #[p, q]), (6, pt (p1 2) 0), (8, .int .i64 0)]) (bx' := [⟨p1 2, 33, [.bool false, .slice none 0 0, .bool false, .slice none 0 0]⟩]) (rw' := []) (by kernel_rfl) (by kernel_rfl) (by kernel_rfl) ?_
  refine tri_seq ?_
  refine tri_reg mixed [.con (.int .i64 0), .con (.bool false)] [2, 6, 8, 14] [0] [] ?_ (by decide) ?_ ?_ _ _
  · kernel_rfl
  · exact ⟨pu, pu, trivial⟩
  rintro p3 x3 u3 hg3 -
  have hG3 := hG2.trans hg3
  refine next (g' := [(2, .func (.func 148) #[] #[p, q]), (6, pt (p1 2) 0), (8, .int .i64 0), (14, .bool false)]) (bx' := [⟨p1 2, 33, [.bool false, .slice none 0 0, .bool false, .slice none 0 0]⟩]) (rw' := []) (by kernel_rfl) (by kernel_rfl) (by kernel_rfl) ?_
  refine tri_false rfl ?_
  refine tri_skip ?_
  refine next rfl rfl rfl ?_
  refine tri_seq ?_
  refine tri_reg mixed [.con (.func (.func 148) #[] #[p, q]), .opq (fun u r => CQv u r q0), .sto ⟨0, 0, .op 1⟩, .con (.int .i64 0)] [6, 7] [0] [] ?_ (by decide) ?_ ?_ _ _
  · kernel_rfl
  · exact ⟨pu, ca (CQv.m _) fun f u w hs => hf _ (hG3.1.trans hs.old), st 0 0 4 ty33 (fun f u w hs => kn rfl (CQv.flat (hs.opq 1 _ rfl rfl))), pu, trivial⟩
  rintro p4 x4 u4 hg4 ⟨q1, -⟩
  have hG4 := hG3.trans hg4
  obtain ⟨s4_1, A4_1, n4_1, c4_1, t4_1, D4_1, m4_1, d4_1, e4_1, h4_1, k4_1⟩ := q1; rw [fun_upd (i := 1) e4_1]
  refine next (g' := [(6, pt (p1 2) 0), (7, .int .i64 0)]) (bx' := [⟨p1 2, 33, [.bool s4_1, .slice A4_1 n4_1 c4_1, .bool t4_1, .slice D4_1 m4_1 d4_1]⟩]) (rw' := []) (by kernel_rfl) (by kernel_rfl) (by kernel_rfl) ?_
  exact tri_ret (ret2 rfl (.agg #[.bool s4_1, .slice A4_1 n4_1 c4_1, .bool t4_1, .slice D4_1 m4_1 d4_1]) (.int .i64 0) (rv_cell 0 (p1 2) 4 33 [.bool s4_1, .slice A4_1 n4_1 c4_1, .bool t4_1, .slice D4_1 m4_1 d4_1] rfl rfl ty33 rfl rfl rfl) rfl hG4 (⟨_, _, rfl, ⟨_, _, _, _, _, _, _, _, rfl, h4_1, k4_1⟩, rfl⟩))

set_option maxRecDepth 100000 in
theorem r_AddF {u : World} {a b c d : Int} {k : Nat} {v0 : Value} {v1 : Value} (h0 : KQ u v0 a b k) (h1 : KQ u v1 c d k) (hk : k ≤ 137438953472) (hb : 0 < b) (hd : 0 < d) : Fn Try.prog 147 #[v0, v1] u (fun u r => CQv u r (((a : Int) : Rat) / ((b : Int) : Rat) + ((c : Int) : Rat) / ((d : Int) : Rat))) := by
  obtain ⟨b0, s0, A0, n0, c0, t0, D0, m0, e0, rfl, K0, h0, k0⟩ := h0
  obtain ⟨b1, s1, A1, n1, c1, t1, D1, m1, e1, rfl, K1, h1, k1⟩ := h1
  refine fn_of (args := [_, _]) Try.func147 rfl (by show 2 ≤ 20; decide) ?_
  intro w0 hs0
  have hG0 := Gr.refl w0.heap.size u
  refine tri_seq ?_
  refine tri_reg mixed [.new 33 [.bool false, .slice none 0 0, .bool false, .slice none 0 0]] [0, 1, 2] [0] [] ?_ (by decide) ?_ ?_ _ _
  · kernel_rfl
  · exact ⟨al, trivial⟩
  rintro p1 x1 u1 hg1 -
  replace K0 := K0.sub hg1.1; replace K1 := K1.sub hg1.1; replace h0 := h0.sub hg1.1; replace h1 := h1.sub hg1.1; replace k0 := k0.sub hg1.1; replace k1 := k1.sub hg1.1
  have hG1 := hG0.trans hg1
  refine next (g' := [(0, pt b0 0), (1, pt b1 0), (2, pt (p1 0) 0)]) (bx' := [⟨p1 0, 33, [.bool false, .slice none 0 0, .bool false, .slice none 0 0]⟩]) (rw' := []) (by kernel_rfl) (by kernel_rfl) (by kernel_rfl) ?_
  refine tri_seq ?_
  refine tri_reg mixed [.con (pt b0 0), .con (.agg #[.bool s0, .slice A0 n0 c0]), .con (pt b1 2), .con (.agg #[.bool t1, .slice D1 m1 e1]), .opq (fun u r => Cv u r (a * d)), .con (pt b1 0), .con (.agg #[.bool s1, .slice A1 n1 c1]), .con (pt b0 2), .con (.agg #[.bool t0, .slice D0 m0 e0]), .opq (fun u r => Cv u r (c * b)), .opq (fun u r => Cv u r ((a * d) + (c * b))), .con (pt b0 2), .con (.agg #[.bool t0, .slice D0 m0 e0]), .con (pt b1 2), .con (.agg #[.bool t1, .slice D1 m1 e1]), .opq (fun u r => Cv u r (b * d)), .opq (fun u r => CQv u r ((((a * d) + (c * b) : Int) : Rat) / ((b * d : Int) : Rat))), .sto ⟨0, 0, .op 16⟩] [2] [0] [] ?_ (by decide) ?_ ?_ _ _
  · kernel_rfl
  · exact ⟨pu, li ty31 (vs := [.bool s0, .slice A0 n0 c0]) (kn_at 0 2 K0) rfl, pu, li ty31 (vs := [.bool t1, .slice D1 m1 e1]) (kn_at 2 2 K1) rfl, ca (Cv.m _) fun f u w hs => (z_Mul ⟨_, _, _, _, rfl, h0.sub hs.old⟩ ⟨_, _, _, _, rfl, k1.sub hs.old⟩ (by omega) (by omega)), pu, li ty31 (vs := [.bool s1, .slice A1 n1 c1]) (kn_at 0 2 K1) rfl, pu, li ty31 (vs := [.bool t0, .slice D0 m0 e0]) (kn_at 2 2 K0) rfl, ca (Cv.m _) fun f u w hs => (z_Mul ⟨_, _, _, _, rfl, h1.sub hs.old⟩ ⟨_, _, _, _, rfl, k0.sub hs.old⟩ (by omega) (by omega)), ca (Cv.m _) fun f u w hs => (z_Add ((hs.opq 4 _ rfl rfl).iv (zl_mul h0.zl k1.zl)) ((hs.opq 9 _ rfl rfl).iv (zl_mul h1.zl k0.zl)) (by omega) (by omega)), pu, li ty31 (vs := [.bool t0, .slice D0 m0 e0]) (kn_at 2 2 K0) rfl, pu, li ty31 (vs := [.bool t1, .slice D1 m1 e1]) (kn_at 2 2 K1) rfl, ca (Cv.m _) fun f u w hs => (z_Mul ⟨_, _, _, _, rfl, k0.sub hs.old⟩ ⟨_, _, _, _, rfl, k1.sub hs.old⟩ (by omega) (by omega)), ca (CQv.m _) fun f u w hs => (r_made ((hs.opq 10 _ rfl rfl).iv (zl_add (zl_mul h0.zl k1.zl) (zl_mul h1.zl k0.zl))) ((hs.opq 15 _ rfl rfl).iv (zl_mul k0.zl k1.zl)) (by omega) (by omega) (by exact Int.mul_ne_zero (by omega) (by omega))), st 0 0 4 ty33 (fun f u w hs => kn rfl (CQv.flat (hs.opq 16 _ rfl rfl))), trivial⟩
  rintro p2 x2 u2 hg2 ⟨q4, q9, q10, q15, q16, -⟩
  replace K0 := K0.sub hg2.1; replace K1 := K1.sub hg2.1; replace h0 := h0.sub hg2.1; replace h1 := h1.sub hg2.1; replace k0 := k0.sub hg2.1; replace k1 := k1.sub hg2.1
  have hG2 := hG1.trans hg2
  obtain ⟨s2_16, A2_16, n2_16, c2_16, t2_16, D2_16, m2_16, d2_16, e2_16, h2_16, k2_16⟩ := q16; rw [fun_upd (i := 16) e2_16]
  refine next (g' := [(2, pt (p1 0) 0)]) (bx' := [⟨p1 0, 33, [.bool s2_16, .slice A2_16 n2_16 c2_16, .bool t2_16, .slice D2_16 m2_16 d2_16]⟩]) (rw' := []) (by kernel_rfl) (by kernel_rfl) (by kernel_rfl) ?_
  exact tri_ret (ret1 rfl (.agg #[.bool s2_16, .slice A2_16 n2_16 c2_16, .bool t2_16, .slice D2_16 m2_16 d2_16]) (rv_cell 0 (p1 0) 4 33 [.bool s2_16, .slice A2_16 n2_16 c2_16, .bool t2_16, .slice D2_16 m2_16 d2_16] rfl rfl ty33 rfl rfl rfl) hG2 (⟨_, _, _, _, _, _, _, _, rfl, by rw [(rat_add (by omega) (by omega))]; exact h2_16, by rw [(rat_add (by omega) (by omega))]; exact k2_16⟩))

set_option maxRecDepth 100000 in
theorem r_SubF {u : World} {a b c d : Int} {k : Nat} {v0 : Value} {v1 : Value} (h0 : KQ u v0 a b k) (h1 : KQ u v1 c d k) (hk : k ≤ 137438953472) (hb : 0 < b) (hd : 0 < d) : Fn Try.prog 148 #[v0, v1] u (fun u r => CQv u r (((a : Int) : Rat) / ((b : Int) : Rat) - ((c : Int) : Rat) / ((d : Int) : Rat))) := by
  obtain ⟨b0, s0, A0, n0, c0, t0, D0, m0, e0, rfl, K0, h0, k0⟩ := h0
  obtain ⟨b1, s1, A1, n1, c1, t1, D1, m1, e1, rfl, K1, h1, k1⟩ := h1
  refine fn_of (args := [_, _]) Try.func148 rfl (by show 2 ≤ 20; decide) ?_
  intro w0 hs0
  have hG0 := Gr.refl w0.heap.size u
  refine tri_seq ?_
  refine tri_reg mixed [.new 33 [.bool false, .slice none 0 0, .bool false, .slice none 0 0]] [0, 1, 2] [0] [] ?_ (by decide) ?_ ?_ _ _
  · kernel_rfl
  · exact ⟨al, trivial⟩
  rintro p1 x1 u1 hg1 -
  replace K0 := K0.sub hg1.1; replace K1 := K1.sub hg1.1; replace h0 := h0.sub hg1.1; replace h1 := h1.sub hg1.1; replace k0 := k0.sub hg1.1; replace k1 := k1.sub hg1.1
  have hG1 := hG0.trans hg1
  refine next (g' := [(0, pt b0 0), (1, pt b1 0), (2, pt (p1 0) 0)]) (bx' := [⟨p1 0, 33, [.bool false, .slice none 0 0, .bool false, .slice none 0 0]⟩]) (rw' := []) (by kernel_rfl) (by kernel_rfl) (by kernel_rfl) ?_
  refine tri_seq ?_
  refine tri_reg mixed [.con (pt b0 0), .con (.agg #[.bool s0, .slice A0 n0 c0]), .con (pt b1 2), .con (.agg #[.bool t1, .slice D1 m1 e1]), .opq (fun u r => Cv u r (a * d)), .con (pt b1 0), .con (.agg #[.bool s1, .slice A1 n1 c1]), .con (pt b0 2), .con (.agg #[.bool t0, .slice D0 m0 e0]), .opq (fun u r => Cv u r (c * b)), .opq (fun u r => Cv u r ((a * d) - (c * b))), .con (pt b0 2), .con (.agg #[.bool t0, .slice D0 m0 e0]), .con (pt b1 2), .con (.agg #[.bool t1, .slice D1 m1 e1]), .opq (fun u r => Cv u r (b * d)), .opq (fun u r => CQv u r ((((a * d) - (c * b) : Int) : Rat) / ((b * d : Int) : Rat))), .sto ⟨0, 0, .op 16⟩] [2] [0] [] ?_ (by decide) ?_ ?_ _ _
  · kernel_rfl
  · exact ⟨pu, li ty31 (vs := [.bool s0, .slice A0 n0 c0]) (kn_at 0 2 K0) rfl, pu, li ty31 (vs := [.bool t1, .slice D1 m1 e1]) (kn_at 2 2 K1) rfl, ca (Cv.m _) fun f u w hs => (z_Mul ⟨_, _, _, _, rfl, h0.sub hs.old⟩ ⟨_, _, _, _, rfl, k1.sub hs.old⟩ (by omega) (by omega)), pu, li ty31 (vs := [.bool s1, .slice A1 n1 c1]) (kn_at 0 2 K1) rfl, pu, li ty31 (vs := [.bool t0, .slice D0 m0 e0]) (kn_at 2 2 K0) rfl, ca (Cv.m _) fun f u w hs => (z_Mul ⟨_, _, _, _, rfl, h1.sub hs.old⟩ ⟨_, _, _, _, rfl, k0.sub hs.old⟩ (by omega) (by omega)), ca (Cv.m _) fun f u w hs => (z_Sub ((hs.opq 4 _ rfl rfl).iv (zl_mul h0.zl k1.zl)) ((hs.opq 9 _ rfl rfl).iv (zl_mul h1.zl k0.zl)) (by omega) (by omega)), pu, li ty31 (vs := [.bool t0, .slice D0 m0 e0]) (kn_at 2 2 K0) rfl, pu, li ty31 (vs := [.bool t1, .slice D1 m1 e1]) (kn_at 2 2 K1) rfl, ca (Cv.m _) fun f u w hs => (z_Mul ⟨_, _, _, _, rfl, k0.sub hs.old⟩ ⟨_, _, _, _, rfl, k1.sub hs.old⟩ (by omega) (by omega)), ca (CQv.m _) fun f u w hs => (r_made ((hs.opq 10 _ rfl rfl).iv (zl_sub (zl_mul h0.zl k1.zl) (zl_mul h1.zl k0.zl))) ((hs.opq 15 _ rfl rfl).iv (zl_mul k0.zl k1.zl)) (by omega) (by omega) (by exact Int.mul_ne_zero (by omega) (by omega))), st 0 0 4 ty33 (fun f u w hs => kn rfl (CQv.flat (hs.opq 16 _ rfl rfl))), trivial⟩
  rintro p2 x2 u2 hg2 ⟨q4, q9, q10, q15, q16, -⟩
  replace K0 := K0.sub hg2.1; replace K1 := K1.sub hg2.1; replace h0 := h0.sub hg2.1; replace h1 := h1.sub hg2.1; replace k0 := k0.sub hg2.1; replace k1 := k1.sub hg2.1
  have hG2 := hG1.trans hg2
  obtain ⟨s2_16, A2_16, n2_16, c2_16, t2_16, D2_16, m2_16, d2_16, e2_16, h2_16, k2_16⟩ := q16; rw [fun_upd (i := 16) e2_16]
  refine next (g' := [(2, pt (p1 0) 0)]) (bx' := [⟨p1 0, 33, [.bool s2_16, .slice A2_16 n2_16 c2_16, .bool t2_16, .slice D2_16 m2_16 d2_16]⟩]) (rw' := []) (by kernel_rfl) (by kernel_rfl) (by kernel_rfl) ?_
  exact tri_ret (ret1 rfl (.agg #[.bool s2_16, .slice A2_16 n2_16 c2_16, .bool t2_16, .slice D2_16 m2_16 d2_16]) (rv_cell 0 (p1 0) 4 33 [.bool s2_16, .slice A2_16 n2_16 c2_16, .bool t2_16, .slice D2_16 m2_16 d2_16] rfl rfl ty33 rfl rfl rfl) hG2 (⟨_, _, _, _, _, _, _, _, rfl, by rw [(rat_dif (by omega) (by omega))]; exact h2_16, by rw [(rat_dif (by omega) (by omega))]; exact k2_16⟩))

set_option maxRecDepth 100000 in
theorem r_Add {u : World} {a b c d : Int} {k : Nat} {v0 : Value} {v1 : Value} (h0 : Qv u v0 a b k) (h1 : Qv u v1 c d k) (hk : k ≤ 137438953472) (hb : 0 < b) (hd : 0 < d) : Fn Try.prog 105 #[v0, v1] u (Tup2 (fun u r => CQv u r (((a : Int) : Rat) / ((b : Int) : Rat) + ((c : Int) : Rat) / ((d : Int) : Rat))) (Is (.int .i64 0))) := by
  obtain ⟨s0, A0, n0, c0, t0, D0, m0, e0, rfl, h0, k0⟩ := h0
  obtain ⟨s1, A1, n1, c1, t1, D1, m1, e1, rfl, h1, k1⟩ := h1
  refine fn_of (args := [_, _]) Try.func105 rfl (by show 2 ≤ 12; decide) ?_
  intro w0 hs0
  have hG0 := Gr.refl w0.heap.size u
  refine tri_seq ?_
  refine tri_reg mixed [.new 33 [.bool s0, .slice A0 n0 c0, .bool t0, .slice D0 m0 e0], .new 33 [.bool s1, .slice A1 n1 c1, .bool t1, .slice D1 m1 e1], .new 33 [.bool false, .slice none 0 0, .bool false, .slice none 0 0], .con (.int .i64 0)] [2, 3, 4] [0, 1, 2] [] ?_ (by decide) ?_ ?_ _ _
  · kernel_rfl
  · exact ⟨al, al, al, pu, trivial⟩
  rintro p1 x1 u1 hg1 -
  replace h0 := h0.sub hg1.1; replace h1 := h1.sub hg1.1; replace k0 := k0.sub hg1.1; replace k1 := k1.sub hg1.1
  have hG1 := hG0.trans hg1
  refine next (g' := [(2, pt (p1 0) 0), (3, pt (p1 1) 0), (4, pt (p1 2) 0)]) (bx' := [⟨p1 0, 33, [.bool s0, .slice A0 n0 c0, .bool t0, .slice D0 m0 e0]⟩, ⟨p1 1, 33, [.bool s1, .slice A1 n1 c1, .bool t1, .slice D1 m1 e1]⟩, ⟨p1 2, 33, [.bool false, .slice none 0 0, .bool false, .slice none 0 0]⟩]) (rw' := []) (by kernel_rfl) (by kernel_rfl) (by kernel_rfl) ?_
  refine tri_seq ?_
  refine tri_seal 0 rfl fun u3 hg3 hK3 => ?_
  replace h0 := h0.sub hg3.1; replace h1 := h1.sub hg3.1; replace k0 := k0.sub hg3.1; replace k1 := k1.sub hg3.1
  have hG3 := hG1.trans hg3
  refine tri_cast rfl (bx' := [⟨p1 1, 33, [.bool s1, .slice A1 n1 c1, .bool t1, .slice D1 m1 e1]⟩, ⟨p1 2, 33, [.bool false, .slice none 0 0, .bool false, .slice none 0 0]⟩]) rfl rfl ?_
  refine tri_seal 0 rfl fun u4 hg4 hK4 => ?_
  replace h0 := h0.sub hg4.1; replace h1 := h1.sub hg4.1; replace hK3 := hK3.sub hg4.1; replace k0 := k0.sub hg4.1; replace k1 := k1.sub hg4.1
  have hG4 := hG3.trans hg4
  refine tri_cast rfl (bx' := [⟨p1 2, 33, [.bool false, .slice none 0 0, .bool false, .slice none 0 0]⟩]) rfl rfl ?_
  refine tri_reg mixed [.con (.agg #[.bool s0, .slice A0 n0 c0, .bool t0, .slice D0 m0 e0]), .con (.agg #[.bool s1, .slice A1 n1 c1, .bool t1, .slice D1 m1 e1]), .con (.func (.func 147) #[] #[pt (p1 0) 0, pt (p1 1) 0]), .opq (Tup2 (fun u r => CQv u r ((((a : Int) : Rat) / ((b : Int) : Rat)) + (((c : Int) : Rat) / ((d : Int) : Rat)))) (Is (.int .i64 0))), .opq (fun u r => CQv u r ((((a : Int) : Rat) / ((b : Int) : Rat)) + (((c : Int) : Rat) / ((d : Int) : Rat)))), .con (.int .i64 0), .sto ⟨0, 0, .op 4⟩, .con (.int .i64 0)] [4, 5] [0] [] ?_ (by decide) ?_ ?_ _ _
  · kernel_rfl
  · exact ⟨li ty33 (vs := [.bool s0, .slice A0 n0 c0, .bool t0, .slice D0 m0 e0]) (kn_at 0 4 hK3) rfl, li ty33 (vs := [.bool s1, .slice A1 n1 c1, .bool t1, .slice D1 m1 e1]) (kn_at 0 4 hK4) rfl, pu, ca (Tup2.mono (CQv.m _) (Is.mono _)) fun f u w hs => (r_twoAdd ⟨_, _, _, _, _, _, _, _, rfl, (h0.sub hs.old), (k0.sub hs.old)⟩ ⟨_, _, _, _, _, _, _, _, rfl, (h1.sub hs.old), (k1.sub hs.old)⟩ (by omega) hb hd (fun u2 hs2 => r_AddF (KQ.sub ⟨_, _, _, _, _, _, _, _, _, rfl, (hK3.sub hs.old), (h0.sub hs.old), (k0.sub hs.old)⟩ hs2) (KQ.sub ⟨_, _, _, _, _, _, _, _, _, rfl, (hK4.sub hs.old), (h1.sub hs.old), (k1.sub hs.old)⟩ hs2) (by omega) hb hd)), ex2a 3 (CQv.m _), ex2c 3, st 0 0 4 ty33 (fun f u w hs => kn rfl (CQv.flat (hs.opq 4 _ rfl rfl))), pu, trivial⟩
  rintro p2 x2 u2 hg2 ⟨q3, q4, -⟩
  replace h0 := h0.sub hg2.1; replace h1 := h1.sub hg2.1; replace hK3 := hK3.sub hg2.1; replace hK4 := hK4.sub hg2.1; replace k0 := k0.sub hg2.1; replace k1 := k1.sub hg2.1
  have hG2 := hG4.trans hg2
  obtain ⟨s2_4, A2_4, n2_4, c2_4, t2_4, D2_4, m2_4, d2_4, e2_4, h2_4, k2_4⟩ := q4; rw [fun_upd (i := 4) e2_4]
  refine next (g' := [(4, pt (p1 2) 0), (5, .int .i64 0)]) (bx' := [⟨p1 2, 33, [.bool s2_4, .slice A2_4 n2_4 c2_4, .bool t2_4, .slice D2_4 m2_4 d2_4]⟩]) (rw' := []) (by kernel_rfl) (by kernel_rfl) (by kernel_rfl) ?_
  exact tri_ret (ret2 rfl (.agg #[.bool s2_4, .slice A2_4 n2_4 c2_4, .bool t2_4, .slice D2_4 m2_4 d2_4]) (.int .i64 0) (rv_cell 0 (p1 2) 4 33 [.bool s2_4, .slice A2_4 n2_4 c2_4, .bool t2_4, .slice D2_4 m2_4 d2_4] rfl rfl ty33 rfl rfl rfl) rfl hG2 (⟨_, _, rfl, ⟨_, _, _, _, _, _, _, _, rfl, h2_4, k2_4⟩, rfl⟩))

set_option maxRecDepth 100000 in
theorem r_Sub {u : World} {a b c d : Int} {k : Nat} {v0 : Value} {v1 : Value} (h0 : Qv u v0 a b k) (h1 : Qv u v1 c d k) (hk : k ≤ 137438953472) (hb : 0 < b) (hd : 0 < d) : Fn Try.prog 106 #[v0, v1] u (Tup2 (fun u r => CQv u r (((a : Int) : Rat) / ((b : Int) : Rat) - ((c : Int) : Rat) / ((d : Int) : Rat))) (Is (.int .i64 0))) := by
  obtain ⟨s0, A0, n0, c0, t0, D0, m0, e0, rfl, h0, k0⟩ := h0
  obtain ⟨s1, A1, n1, c1, t1, D1, m1, e1, rfl, h1, k1⟩ := h1
  refine fn_of (args := [_, _]) Try.func106 rfl (by show 2 ≤ 12; decide) ?_
  intro w0 hs0
  have hG0 := Gr.refl w0.heap.size u
  refine tri_seq ?_
  refine tri_reg mixed [.new 33 [.bool s0, .slice A0 n0 c0, .bool t0, .slice D0 m0 e0], .new 33 [.bool s1, .slice A1 n1 c1, .bool t1, .slice D1 m1 e1], .new 33 [.bool false, .slice none 0 0, .bool false, .slice none 0 0], .con (.int .i64 0)] [2, 3, 4] [0, 1, 2] [] ?_ (by decide) ?_ ?_ _ _
  · kernel_rfl
  · exact ⟨al, al, al, pu, trivial⟩
  rintro p1 x1 u1 hg1 -
  replace h0 := h0.sub hg1.1; replace h1 := h1.sub hg1.1; replace k0 := k0.sub hg1.1; replace k1 := k1.sub hg1.1
  have hG1 := hG0.trans hg1
  refine next (g' := [(2, pt (p1 0) 0), (3, pt (p1 1) 0), (4, pt (p1 2) 0)]) (bx' := [⟨p1 0, 33, [.bool s0, .slice A0 n0 c0, .bool t0, .slice D0 m0 e0]⟩, ⟨p1 1, 33, [.bool s1, .slice A1 n1 c1, .bool t1, .slice D1 m1 e1]⟩, ⟨p1 2, 33, [.bool false, .slice none 0 0, .bool false, .slice none 0 0]⟩]) (rw' := []) (by kernel_rfl) (by kernel_rfl) (by kernel_rfl) ?_
  refine tri_seq ?_
  refine tri_seal 0 rfl fun u3 hg3 hK3 => ?_
  replace h0 := h0.sub hg3.1; replace h1 := h1.sub hg3.1; replace k0 := k0.sub hg3.1; replace k1 := k1.sub hg3.1
  have hG3 := hG1.trans hg3
  refine tri_cast rfl (bx' := [⟨p1 1, 33, [.bool s1, .slice A1 n1 c1, .bool t1, .slice D1 m1 e1]⟩, ⟨p1 2, 33, [.bool false, .slice none 0 0, .bool false, .slice none 0 0]⟩]) rfl rfl ?_
  refine tri_seal 0 rfl fun u4 hg4 hK4 => ?_
  replace h0 := h0.sub hg4.1; replace h1 := h1.sub hg4.1; replace hK3 := hK3.sub hg4.1; replace k0 := k0.sub hg4.1; replace k1 := k1.sub hg4.1
  have hG4 := hG3.trans hg4
  refine tri_cast rfl (bx' := [⟨p1 2, 33, [.bool false, .slice none 0 0, .bool false, .slice none 0 0]⟩]) rfl rfl ?_
  refine tri_reg mixed [.con (.agg #[.bool s0, .slice A0 n0 c0, .bool t0, .slice D0 m0 e0]), .con (.agg #[.bool s1, .slice A1 n1 c1, .bool t1, .slice D1 m1 e1]), .con (.func (.func 148) #[] #[pt (p1 0) 0, pt (p1 1) 0]), .opq (Tup2 (fun u r => CQv u r ((((a : Int) : Rat) / ((b : Int) : Rat)) - (((c : Int) : Rat) / ((d : Int) : Rat)))) (Is (.int .i64 0))), .opq (fun u r => CQv u r ((((a : Int) : Rat) / ((b : Int) : Rat)) - (((c : Int) : Rat) / ((d : Int) : Rat)))), .con (.int .i64 0), .sto ⟨0, 0, .op 4⟩, .con (.int .i64 0)] [4, 5] [0] [] ?_ (by decide) ?_ ?_ _ _
  · kernel_rfl
  · exact ⟨li ty33 (vs := [.bool s0, .slice A0 n0 c0, .bool t0, .slice D0 m0 e0]) (kn_at 0 4 hK3) rfl, li ty33 (vs := [.bool s1, .slice A1 n1 c1, .bool t1, .slice D1 m1 e1]) (kn_at 0 4 hK4) rfl, pu, ca (Tup2.mono (CQv.m _) (Is.mono _)) fun f u w hs => (r_twoSub ⟨_, _, _, _, _, _, _, _, rfl, (h0.sub hs.old), (k0.sub hs.old)⟩ ⟨_, _, _, _, _, _, _, _, rfl, (h1.sub hs.old), (k1.sub hs.old)⟩ (by omega) hb hd (fun u2 hs2 => r_SubF (KQ.sub ⟨_, _, _, _, _, _, _, _, _, rfl, (hK3.sub hs.old), (h0.sub hs.old), (k0.sub hs.old)⟩ hs2) (KQ.sub ⟨_, _, _, _, _, _, _, _, _, rfl, (hK4.sub hs.old), (h1.sub hs.old), (k1.sub hs.old)⟩ hs2) (by omega) hb hd)), ex2a 3 (CQv.m _), ex2c 3, st 0 0 4 ty33 (fun f u w hs => kn rfl (CQv.flat (hs.opq 4 _ rfl rfl))), pu, trivial⟩
  rintro p2 x2 u2 hg2 ⟨q3, q4, -⟩
  replace h0 := h0.sub hg2.1; replace h1 := h1.sub hg2.1; replace hK3 := hK3.sub hg2.1; replace hK4 := hK4.sub hg2.1; replace k0 := k0.sub hg2.1; replace k1 := k1.sub hg2.1
  have hG2 := hG4.trans hg2
  obtain ⟨s2_4, A2_4, n2_4, c2_4, t2_4, D2_4, m2_4, d2_4, e2_4, h2_4, k2_4⟩ := q4; rw [fun_upd (i := 4) e2_4]
  refine next (g' := [(4, pt (p1 2) 0), (5, .int .i64 0)]) (bx' := [⟨p1 2, 33, [.bool s2_4, .slice A2_4 n2_4 c2_4, .bool t2_4, .slice D2_4 m2_4 d2_4]⟩]) (rw' := []) (by kernel_rfl) (by kernel_rfl) (by kernel_rfl) ?_
  exact tri_ret (ret2 rfl (.agg #[.bool s2_4, .slice A2_4 n2_4 c2_4, .bool t2_4, .slice D2_4 m2_4 d2_4]) (.int .i64 0) (rv_cell 0 (p1 2) 4 33 [.bool s2_4, .slice A2_4 n2_4 c2_4, .bool t2_4, .slice D2_4 m2_4 d2_4] rfl rfl ty33 rfl rfl rfl) rfl hG2 (⟨_, _, rfl, ⟨_, _, _, _, _, _, _, _, rfl, h2_4, k2_4⟩, rfl⟩))
end Go.Proofs.Ytaagioghkicdkaa
