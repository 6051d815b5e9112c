/- Contracts of whole numbers. -/
import Derived.Test.YtaagioghkicdkaaTy
set_option linter.unusedVariables false
set_option linter.unusedSimpArgs false
namespace Go.Proofs.Ytaagioghkicdkaa
open Go.RowKit Go.Proofs.YtaagioghkicdkaaW.PrintWords Mt
theorem GI.is {w : World} {s : Bool} {A : Option Addr} {n c b : Nat} {z : Int} (h : GI w s A n c z b) : z = intv s z.natAbs := by
  obtain ⟨_, N, _, rfl⟩ := h
  rw [intv_natAbs]
theorem GI.rn {w : World} {s : Bool} {A : Option Addr} {n c b : Nat} {z : Int} (h : GI w s A n c z b) : RN w A n c z.natAbs := by
  obtain ⟨_, N, h, rfl⟩ := h
  rwa [intv_natAbs]
theorem tri3 (p q : Prop) : p ∨ (¬ p ∧ q) ∨ (¬ p ∧ ¬ q) := by
  rcases Classical.em p with h | h
  · exact .inl h
  · rcases Classical.em q with k | k
    · exact .inr (.inl ⟨h, k⟩)
    · exact .inr (.inr ⟨h, k⟩)
namespace Mt
theorem zl_intv {s : Bool} {N k : Nat} (h : lim N ≤ k) : zl (intv s N) ≤ k := by unfold zl; rwa [intv_natAbs]
theorem floor_no2 {x y : Int} {s t : Bool} (hx : x = intv s x.natAbs) (hy : y = intv t y.natAbs) (h0 : y ≠ 0) (h : ¬ (intv s (x.natAbs % y.natAbs) ≠ 0 ∧ sg (intv s (x.natAbs % y.natAbs)) ≠ sg y)) : Int.fdiv x y = intv (s != t) (x.natAbs / y.natAbs) ∧ Int.fmod x y = intv s (x.natAbs % y.natAbs) := by
  have := floor_no s t x.natAbs y.natAbs (by omega) (by rw [← hy]; exact h)
  rwa [← hx, ← hy] at this
theorem floor_yes2 {x y : Int} {s t : Bool} (hx : x = intv s x.natAbs) (hy : y = intv t y.natAbs) (h0 : y ≠ 0) (h : intv s (x.natAbs % y.natAbs) ≠ 0 ∧ sg (intv s (x.natAbs % y.natAbs)) ≠ sg y) : Int.fdiv x y = intv (s != t) (x.natAbs / y.natAbs) - 1 ∧ Int.fmod x y = intv s (x.natAbs % y.natAbs) + y := by
  have := floor_yes s t x.natAbs y.natAbs (by omega) (by rw [← hy]; exact h)
  rwa [← hx, ← hy] at this
theorem zl_fdiv {x : Int} (y : Int) {k : Nat} (h : zl x ≤ k) : zl (Int.fdiv x y) ≤ k := Nat.le_trans (lim_mono (Int.natAbs_fdiv_le_natAbs x y)) h
theorem zl_fmod (x : Int) {y : Int} {k : Nat} (h0 : y ≠ 0) (h : zl y ≤ k) : zl (Int.fmod x y) ≤ k := Nat.le_trans (lim_mono (by
  rcases Int.lt_or_gt_of_ne h0 with h1 | h1
  · have e := Int.neg_fmod_neg x y; have a := Int.fmod_nonneg_of_pos (-x) (show 0 < -y by omega); have b := Int.fmod_lt_of_pos (-x) (show 0 < -y by omega); omega
  · have a := Int.fmod_nonneg_of_pos x h1; have b := Int.fmod_lt_of_pos x h1; omega)) h
theorem sg_iff {x : Int} : sg x = 0 ↔ x = 0 := by unfold sg sgnc; split <;> (try split) <;> omega
end Mt

set_option maxRecDepth 100000 in
theorem z_Floor {u : World} {x y : Int} {k l : Nat} {v0 : Value} {v1 : Value} (h0 : Iv u v0 x k) (h1 : Iv u v1 y l) (hk : k ≤ 2199023255552) (hl : l ≤ 2199023255552) (h0y : y ≠ 0) : Fn Try.prog 128 #[v0, v1] u (Tup3 (fun u r => Cv u r (Int.fdiv x y)) (fun u r => Cv u r (Int.fmod x y)) (Is (.int .i64 0))) := by
  obtain ⟨s0, A0, n0, c0, rfl, h0⟩ := h0
  obtain ⟨s1, A1, n1, c1, rfl, h1⟩ := h1
  have hx := h0.is; have hy := h1.is; have hl0 : lim x.natAbs ≤ k := h0.zl; have hl1 : lim y.natAbs ≤ l := h1.zl
  refine fn_of (args := [_, _]) Try.func128 rfl (by show 2 ≤ 54; decide) ?_
  intro w0 hs0
  have hG0 := Gr.refl w0.heap.size u
  refine tri_seq ?_
  refine tri_reg mixed [.new 31 [.bool s0, .slice A0 n0 c0], .new 31 [.bool s1, .slice A1 n1 c1], .new 31 [.bool false, .slice none 0 0], .new 31 [.bool false, .slice none 0 0], .con (.int .i64 0)] [2, 3, 4, 5] [0, 1, 2, 3] [] ?_ (by decide) ?_ ?_ _ _
  · kernel_rfl
  · exact ⟨al, al, al, al, pu, trivial⟩
  rintro p1 x1 u1 hg1 -
  replace h0 := h0.sub hg1.1; replace h1 := h1.sub hg1.1
  have hG1 := hG0.trans hg1
  refine next (g' := [(2, pt (p1 0) 0), (3, pt (p1 1) 0), (4, pt (p1 2) 0), (5, pt (p1 3) 0)]) (bx' := [⟨p1 0, 31, [.bool s0, .slice A0 n0 c0]⟩, ⟨p1 1, 31, [.bool s1, .slice A1 n1 c1]⟩, ⟨p1 2, 31, [.bool false, .slice none 0 0]⟩, ⟨p1 3, 31, [.bool false, .slice none 0 0]⟩]) (rw' := []) (by kernel_rfl) (by kernel_rfl) (by kernel_rfl) ?_
  refine tri_seq ?_
  refine tri_reg mixed [.con (pt (p1 0) 1), .con (.slice A0 n0 c0), .con (pt (p1 1) 1), .con (.slice A1 n1 c1), .opq (Tup3 (fun u r => LCv u r (((x).natAbs) / ((y).natAbs))) (fun u r => LCv u r (((x).natAbs) % ((y).natAbs))) (Is (.int .i64 0))), .opq (Tup3 (fun u r => LCv u r (((x).natAbs) / ((y).natAbs))) (fun u r => LCv u r (((x).natAbs) % ((y).natAbs))) (Is (.int .i64 0))), .opq (fun u r => LCv u r (((x).natAbs) / ((y).natAbs))), .opq (fun u r => LCv u r (((x).natAbs) % ((y).natAbs))), .con (.int .i64 0), .cpy 6, .cpy 7, .con (.int .i64 0)] [2, 3, 4, 5, 7, 8, 9] [0, 1, 2, 3] [] ?_ (by decide) ?_ ?_ _ _
  · kernel_rfl
  · exact ⟨pu, ld 0 1 1 ty29, pu, ld 1 1 1 ty29, ca (Tup3.mono (LCv.m _) (LCv.m _) (Is.mono _)) fun f u w hs => (n_Div ⟨_, _, _, rfl, (h0.sub hs.old).1, GI.rn (h0.sub hs.old)⟩ ⟨_, _, _, rfl, (h1.sub hs.old).1, GI.rn (h1.sub hs.old)⟩ (by omega) (by omega) (by omega)), mv 4 (Tup3.mono (LCv.m _) (LCv.m _) (Is.mono _)), ex3a 5 (LCv.m _), ex3b 5 (LCv.m _), ex3c 5, cp, cp, pu, trivial⟩
  rintro p2 x2 u2 hg2 ⟨q4, q5, q6, q7, -⟩
  replace h0 := h0.sub hg2.1; replace h1 := h1.sub hg2.1
  have hG2 := hG1.trans hg2
  obtain ⟨A2_6, n2_6, c2_6, e2_6, h2_6, l2_6, l2_6n, l2_6M⟩ := q6.open; rw [fun_upd (i := 6) e2_6]
  obtain ⟨A2_7, n2_7, c2_7, e2_7, h2_7, l2_7, l2_7n, l2_7M⟩ := q7.open; rw [fun_upd (i := 7) e2_7]
  refine next (g' := [(2, pt (p1 0) 0), (3, pt (p1 1) 0), (4, pt (p1 2) 0), (5, pt (p1 3) 0), (7, .slice A2_6 n2_6 c2_6), (8, .slice A2_7 n2_7 c2_7), (9, .int .i64 0)]) (bx' := [⟨p1 0, 31, [.bool s0, .slice A0 n0 c0]⟩, ⟨p1 1, 31, [.bool s1, .slice A1 n1 c1]⟩, ⟨p1 2, 31, [.bool false, .slice none 0 0]⟩, ⟨p1 3, 31, [.bool false, .slice none 0 0]⟩]) (rw' := []) (by kernel_rfl) (by kernel_rfl) (by kernel_rfl) ?_
  refine tri_seq ?_
  refine tri_seq ?_
  refine tri_reg mixed [.con (.int .i64 0), .con (.bool false)] [2, 3, 4, 5, 7, 8, 22] [0, 1, 2, 3] [] ?_ (by decide) ?_ ?_ _ _
  · kernel_rfl
  · exact ⟨pu, pu, trivial⟩
  rintro p3 x3 u3 hg3 -
  replace h0 := h0.sub hg3.1; replace h1 := h1.sub hg3.1; replace h2_6 := h2_6.sub dLk hg3.1; replace h2_7 := h2_7.sub dLk hg3.1
  have hG3 := hG2.trans hg3
  refine next (g' := [(2, pt (p1 0) 0), (3, pt (p1 1) 0), (4, pt (p1 2) 0), (5, pt (p1 3) 0), (7, .slice A2_6 n2_6 c2_6), (8, .slice A2_7 n2_7 c2_7), (22, .bool false)]) (bx' := [⟨p1 0, 31, [.bool s0, .slice A0 n0 c0]⟩, ⟨p1 1, 31, [.bool s1, .slice A1 n1 c1]⟩, ⟨p1 2, 31, [.bool false, .slice none 0 0]⟩, ⟨p1 3, 31, [.bool false, .slice none 0 0]⟩]) (rw' := []) (by kernel_rfl) (by kernel_rfl) (by kernel_rfl) ?_
  refine tri_false rfl ?_
  refine tri_skip ?_
  refine next rfl rfl rfl ?_
  refine tri_seq ?_
  refine tri_reg mixed [.con (pt (p1 0) 0), .con (.bool s0), .con (pt (p1 1) 0), .con (.bool s1), .con (.bool (s0 != s1)), .con (.slice A2_6 n2_6 c2_6), .opq (fun u r => Cv u r (intv (s0 != s1) (((x).natAbs) / ((y).natAbs)))), .con (pt (p1 0) 0), .con (.bool s0), .con (.slice A2_7 n2_7 c2_7), .opq (fun u r => Cv u r (intv s0 (((x).natAbs) % ((y).natAbs)))), .new 31 [.bool false, .slice none 0 0], .new 31 [.bool false, .slice none 0 0], .sto ⟨15, 0, .op 6⟩, .sto ⟨16, 0, .op 10⟩] [3, 4, 5, 10, 11] [1, 2, 3, 15, 16] [] ?_ (by decide) ?_ ?_ _ _
  · kernel_rfl
  · exact ⟨pu, ld 0 0 1 ty4, pu, ld 1 0 1 ty4, pu, pu, ca (Cv.m _) fun f u w hs => (z_made (Lv.of (b := k) (h2_6.sub dLk hs.old) (dig_lim _) (dig_val _) (Nat.le_trans (lim_mono (Nat.div_le_self _ _)) hl0)) (by omega)), pu, ld 0 0 1 ty4, pu, ca (Cv.m _) fun f u w hs => (z_made (Lv.of (b := k) (h2_7.sub dLk hs.old) (dig_lim _) (dig_val _) (Nat.le_trans (lim_mono (Nat.mod_le _ _)) hl0)) (by omega)), al, al, sn 11 2 ty31 (fun f u w hs => kn rfl (Cv.flat (hs.opq 6 _ rfl rfl))), sn 12 2 ty31 (fun f u w hs => kn rfl (Cv.flat (hs.opq 10 _ rfl rfl))), trivial⟩
  rintro p4 x4 u4 hg4 ⟨q6, q10, -⟩
  replace h0 := h0.sub hg4.1; replace h1 := h1.sub hg4.1; replace h2_6 := h2_6.sub dLk hg4.1; replace h2_7 := h2_7.sub dLk hg4.1
  have hG4 := hG3.trans hg4
  obtain ⟨s4_6, A4_6, n4_6, c4_6, e4_6, h4_6⟩ := q6; rw [fun_upd (i := 6) e4_6]
  obtain ⟨s4_10, A4_10, n4_10, c4_10, e4_10, h4_10⟩ := q10; rw [fun_upd (i := 10) e4_10]
  refine next (g' := [(3, pt (p1 1) 0), (4, pt (p1 2) 0), (5, pt (p1 3) 0), (10, pt (p4 11) 0), (11, pt (p4 12) 0)]) (bx' := [⟨p1 1, 31, [.bool s1, .slice A1 n1 c1]⟩, ⟨p1 2, 31, [.bool false, .slice none 0 0]⟩, ⟨p1 3, 31, [.bool false, .slice none 0 0]⟩, ⟨p4 11, 31, [.bool s4_6, .slice A4_6 n4_6 c4_6]⟩, ⟨p4 12, 31, [.bool s4_10, .slice A4_10 n4_10 c4_10]⟩]) (rw' := []) (by kernel_rfl) (by kernel_rfl) (by kernel_rfl) ?_
  refine tri_seq ?_
  refine tri_seq ?_
  rcases tri3 (intv s0 (x.natAbs % y.natAbs) = 0) (sg (intv s0 (x.natAbs % y.natAbs)) = sg y) with r1 | ⟨r1, r2⟩ | ⟨r1, r2⟩
  · have hF := floor_no2 hx hy h0y (fun h => h.1 r1)
    refine tri_reg mixed [.con (.agg #[.bool s4_10, .slice A4_10 n4_10 c4_10]), .con (.int .i64 (sg (intv s0 (((x).natAbs) % ((y).natAbs))))), .con (.bool false), .con (.bool false), .con undef, .con undef, .con undef, .con undef, .con undef, .con (.bool false)] [3, 4, 5, 10, 11, 45] [0, 1, 2, 3, 4] [] ?_ (by decide) ?_ ?_ _ _
    · kernel_rfl
    · exact ⟨ld 4 0 2 ty31, cc fun f u w hs => (z_Sign ⟨_, _, _, _, rfl, (h4_10.sub hs.old).gi (zl_intv (Nat.le_trans (lim_mono (Nat.mod_le _ _)) hl0))⟩ (by omega)), pw (bnf (a := (sg (intv s0 (((x).natAbs) % ((y).natAbs))))) (b := 0) (by exact sg_iff.2 r1)), pu, trivial, trivial, trivial, trivial, trivial, pu, trivial⟩
    rintro p5 x5 u5 hg5 -
    replace h1 := h1.sub hg5.1; replace h4_10 := h4_10.sub hg5.1; replace h4_6 := h4_6.sub hg5.1
    have hG5 := hG4.trans hg5
    refine next (g' := [(3, pt (p1 1) 0), (4, pt (p1 2) 0), (5, pt (p1 3) 0), (10, pt (p4 11) 0), (11, pt (p4 12) 0), (45, .bool false)]) (bx' := [⟨p1 1, 31, [.bool s1, .slice A1 n1 c1]⟩, ⟨p1 2, 31, [.bool false, .slice none 0 0]⟩, ⟨p1 3, 31, [.bool false, .slice none 0 0]⟩, ⟨p4 11, 31, [.bool s4_6, .slice A4_6 n4_6 c4_6]⟩, ⟨p4 12, 31, [.bool s4_10, .slice A4_10 n4_10 c4_10]⟩]) (rw' := []) (by kernel_rfl) (by kernel_rfl) (by kernel_rfl) ?_
    refine tri_false rfl ?_
    refine tri_skip ?_
    refine next rfl rfl rfl ?_
    refine tri_seq ?_
    refine tri_reg mixed [.con (.agg #[.bool s4_6, .slice A4_6 n4_6 c4_6]), .con (.agg #[.bool s4_10, .slice A4_10 n4_10 c4_10]), .sto ⟨1, 0, .op 0⟩, .sto ⟨2, 0, .op 1⟩, .con (.int .i64 0)] [4, 5, 6] [1, 2] [] ?_ (by decide) ?_ ?_ _ _
    · kernel_rfl
    · exact ⟨ld 3 0 2 ty31, ld 4 0 2 ty31, st 1 0 2 ty31 (fun f u w hs => kn rfl ⟨rfl, rfl⟩), st 2 0 2 ty31 (fun f u w hs => kn rfl ⟨rfl, rfl⟩), pu, trivial⟩
    rintro p6 x6 u6 hg6 -
    replace h1 := h1.sub hg6.1; replace h4_10 := h4_10.sub hg6.1; replace h4_6 := h4_6.sub hg6.1
    have hG6 := hG5.trans hg6
    refine next (g' := [(4, pt (p1 2) 0), (5, pt (p1 3) 0), (6, .int .i64 0)]) (bx' := [⟨p1 2, 31, [.bool s4_6, .slice A4_6 n4_6 c4_6]⟩, ⟨p1 3, 31, [.bool s4_10, .slice A4_10 n4_10 c4_10]⟩]) (rw' := []) (by kernel_rfl) (by kernel_rfl) (by kernel_rfl) ?_
    exact tri_ret (ret3 rfl (.agg #[.bool s4_6, .slice A4_6 n4_6 c4_6]) (.agg #[.bool s4_10, .slice A4_10 n4_10 c4_10]) (.int .i64 0) (rv_cell 0 (p1 2) 2 31 [.bool s4_6, .slice A4_6 n4_6 c4_6] rfl rfl ty31 rfl rfl rfl) (rv_cell 1 (p1 3) 2 31 [.bool s4_10, .slice A4_10 n4_10 c4_10] rfl rfl ty31 rfl rfl rfl) rfl hG6 (⟨_, _, _, rfl, ⟨_, _, _, _, rfl, by rw [hF.1]; exact h4_6⟩, ⟨_, _, _, _, rfl, by rw [hF.2]; exact h4_10⟩, rfl⟩))
  · have hF := floor_no2 hx hy h0y (fun h => h.2 r2)
    refine tri_reg mixed [.con (.agg #[.bool s4_10, .slice A4_10 n4_10 c4_10]), .con (.int .i64 (sg (intv s0 (((x).natAbs) % ((y).natAbs))))), .con (.bool true), .con (.bool true), .con (.agg #[.bool s4_10, .slice A4_10 n4_10 c4_10]), .con (.int .i64 (sg (intv s0 (((x).natAbs) % ((y).natAbs))))), .con (.agg #[.bool s1, .slice A1 n1 c1]), .con (.int .i64 (sg y)), .con (.bool false), .con (.bool false)] [3, 4, 5, 10, 11, 45] [0, 1, 2, 3, 4] [] ?_ (by decide) ?_ ?_ _ _
    · kernel_rfl
    · exact ⟨ld 4 0 2 ty31, cc fun f u w hs => (z_Sign ⟨_, _, _, _, rfl, (h4_10.sub hs.old).gi (zl_intv (Nat.le_trans (lim_mono (Nat.mod_le _ _)) hl0))⟩ (by omega)), pw (bnt (a := (sg (intv s0 (((x).natAbs) % ((y).natAbs))))) (b := 0) (by exact fun h => r1 (sg_iff.1 h))), pu, ld 4 0 2 ty31, cc fun f u w hs => (z_Sign ⟨_, _, _, _, rfl, (h4_10.sub hs.old).gi (zl_intv (Nat.le_trans (lim_mono (Nat.mod_le _ _)) hl0))⟩ (by omega)), ld 0 0 2 ty31, cc fun f u w hs => (z_Sign ⟨_, _, _, _, rfl, h1.sub hs.old⟩ (by omega)), pw (bnf (a := (sg (intv s0 (((x).natAbs) % ((y).natAbs))))) (b := (sg y)) (by exact r2)), pu, trivial⟩
    rintro p7 x7 u7 hg7 -
    replace h1 := h1.sub hg7.1; replace h4_10 := h4_10.sub hg7.1; replace h4_6 := h4_6.sub hg7.1
    have hG7 := hG4.trans hg7
    refine next (g' := [(3, pt (p1 1) 0), (4, pt (p1 2) 0), (5, pt (p1 3) 0), (10, pt (p4 11) 0), (11, pt (p4 12) 0), (45, .bool false)]) (bx' := [⟨p1 1, 31, [.bool s1, .slice A1 n1 c1]⟩, ⟨p1 2, 31, [.bool false, .slice none 0 0]⟩, ⟨p1 3, 31, [.bool false, .slice none 0 0]⟩, ⟨p4 11, 31, [.bool s4_6, .slice A4_6 n4_6 c4_6]⟩, ⟨p4 12, 31, [.bool s4_10, .slice A4_10 n4_10 c4_10]⟩]) (rw' := []) (by kernel_rfl) (by kernel_rfl) (by kernel_rfl) ?_
    refine tri_false rfl ?_
    refine tri_skip ?_
    refine next rfl rfl rfl ?_
    refine tri_seq ?_
    refine tri_reg mixed [.con (.agg #[.bool s4_6, .slice A4_6 n4_6 c4_6]), .con (.agg #[.bool s4_10, .slice A4_10 n4_10 c4_10]), .sto ⟨1, 0, .op 0⟩, .sto ⟨2, 0, .op 1⟩, .con (.int .i64 0)] [4, 5, 6] [1, 2] [] ?_ (by decide) ?_ ?_ _ _
    · kernel_rfl
    · exact ⟨ld 3 0 2 ty31, ld 4 0 2 ty31, st 1 0 2 ty31 (fun f u w hs => kn rfl ⟨rfl, rfl⟩), st 2 0 2 ty31 (fun f u w hs => kn rfl ⟨rfl, rfl⟩), pu, trivial⟩
    rintro p8 x8 u8 hg8 -
    replace h1 := h1.sub hg8.1; replace h4_10 := h4_10.sub hg8.1; replace h4_6 := h4_6.sub hg8.1
    have hG8 := hG7.trans hg8
    refine next (g' := [(4, pt (p1 2) 0), (5, pt (p1 3) 0), (6, .int .i64 0)]) (bx' := [⟨p1 2, 31, [.bool s4_6, .slice A4_6 n4_6 c4_6]⟩, ⟨p1 3, 31, [.bool s4_10, .slice A4_10 n4_10 c4_10]⟩]) (rw' := []) (by kernel_rfl) (by kernel_rfl) (by kernel_rfl) ?_
    exact tri_ret (ret3 rfl (.agg #[.bool s4_6, .slice A4_6 n4_6 c4_6]) (.agg #[.bool s4_10, .slice A4_10 n4_10 c4_10]) (.int .i64 0) (rv_cell 0 (p1 2) 2 31 [.bool s4_6, .slice A4_6 n4_6 c4_6] rfl rfl ty31 rfl rfl rfl) (rv_cell 1 (p1 3) 2 31 [.bool s4_10, .slice A4_10 n4_10 c4_10] rfl rfl ty31 rfl rfl rfl) rfl hG8 (⟨_, _, _, rfl, ⟨_, _, _, _, rfl, by rw [hF.1]; exact h4_6⟩, ⟨_, _, _, _, rfl, by rw [hF.2]; exact h4_10⟩, rfl⟩))
  · have hF := floor_yes2 hx hy h0y ⟨r1, r2⟩
    refine tri_reg mixed [.con (.agg #[.bool s4_10, .slice A4_10 n4_10 c4_10]), .con (.int .i64 (sg (intv s0 (((x).natAbs) % ((y).natAbs))))), .con (.bool true), .con (.bool true), .con (.agg #[.bool s4_10, .slice A4_10 n4_10 c4_10]), .con (.int .i64 (sg (intv s0 (((x).natAbs) % ((y).natAbs))))), .con (.agg #[.bool s1, .slice A1 n1 c1]), .con (.int .i64 (sg y)), .con (.bool true), .con (.bool true)] [3, 4, 5, 10, 11, 45] [0, 1, 2, 3, 4] [] ?_ (by decide) ?_ ?_ _ _
    · kernel_rfl
    · exact ⟨ld 4 0 2 ty31, cc fun f u w hs => (z_Sign ⟨_, _, _, _, rfl, (h4_10.sub hs.old).gi (zl_intv (Nat.le_trans (lim_mono (Nat.mod_le _ _)) hl0))⟩ (by omega)), pw (bnt (a := (sg (intv s0 (((x).natAbs) % ((y).natAbs))))) (b := 0) (by exact fun h => r1 (sg_iff.1 h))), pu, ld 4 0 2 ty31, cc fun f u w hs => (z_Sign ⟨_, _, _, _, rfl, (h4_10.sub hs.old).gi (zl_intv (Nat.le_trans (lim_mono (Nat.mod_le _ _)) hl0))⟩ (by omega)), ld 0 0 2 ty31, cc fun f u w hs => (z_Sign ⟨_, _, _, _, rfl, h1.sub hs.old⟩ (by omega)), pw (bnt (a := (sg (intv s0 (((x).natAbs) % ((y).natAbs))))) (b := (sg y)) (by exact r2)), pu, trivial⟩
    rintro p9 x9 u9 hg9 -
    replace h1 := h1.sub hg9.1; replace h4_10 := h4_10.sub hg9.1; replace h4_6 := h4_6.sub hg9.1
    have hG9 := hG4.trans hg9
    refine next (g' := [(3, pt (p1 1) 0), (4, pt (p1 2) 0), (5, pt (p1 3) 0), (10, pt (p4 11) 0), (11, pt (p4 12) 0), (45, .bool true)]) (bx' := [⟨p1 1, 31, [.bool s1, .slice A1 n1 c1]⟩, ⟨p1 2, 31, [.bool false, .slice none 0 0]⟩, ⟨p1 3, 31, [.bool false, .slice none 0 0]⟩, ⟨p4 11, 31, [.bool s4_6, .slice A4_6 n4_6 c4_6]⟩, ⟨p4 12, 31, [.bool s4_10, .slice A4_10 n4_10 c4_10]⟩]) (rw' := []) (by kernel_rfl) (by kernel_rfl) (by kernel_rfl) ?_
    refine tri_true rfl ?_
    refine tri_reg mixed [.con (.agg #[.bool s4_6, .slice A4_6 n4_6 c4_6]), .opq (fun u r => Cv u r 1), .opq (fun u r => Cv u r ((intv (s0 != s1) (((x).natAbs) / ((y).natAbs))) - 1)), .con (.agg #[.bool s4_10, .slice A4_10 n4_10 c4_10]), .con (.agg #[.bool s1, .slice A1 n1 c1]), .opq (fun u r => Cv u r ((intv s0 (((x).natAbs) % ((y).natAbs))) + y)), .sto ⟨3, 0, .op 2⟩, .sto ⟨4, 0, .op 5⟩] [4, 5, 10, 11] [1, 2, 3, 4] [] ?_ (by decide) ?_ ?_ _ _
    · kernel_rfl
    · exact ⟨ld 3 0 2 ty31, ca (Cv.m _) fun f u w hs => (z_Of (by omega) (by omega)), ca (Cv.m _) fun f u w hs => (z_Sub ⟨_, _, _, _, rfl, (h4_6.sub hs.old).gi (zl_intv (Nat.le_trans (lim_mono (Nat.div_le_self _ _)) hl0))⟩ ((hs.opq 1 _ rfl rfl).iv (zl_of (by omega) (by omega))) (by omega) (by omega)), ld 4 0 2 ty31, ld 0 0 2 ty31, ca (Cv.m _) fun f u w hs => (z_Add ⟨_, _, _, _, rfl, (h4_10.sub hs.old).gi (zl_intv (Nat.le_trans (lim_mono (Nat.mod_le _ _)) hl0))⟩ ⟨_, _, _, _, rfl, h1.sub hs.old⟩ (by omega) (by omega)), st 3 0 2 ty31 (fun f u w hs => kn rfl (Cv.flat (hs.opq 2 _ rfl rfl))), st 4 0 2 ty31 (fun f u w hs => kn rfl (Cv.flat (hs.opq 5 _ rfl rfl))), trivial⟩
    rintro p10 x10 u10 hg10 ⟨q1, q2, q5, -⟩
    replace h1 := h1.sub hg10.1; replace h4_10 := h4_10.sub hg10.1; replace h4_6 := h4_6.sub hg10.1
    have hG10 := hG9.trans hg10
    obtain ⟨s10_2, A10_2, n10_2, c10_2, e10_2, h10_2⟩ := q2; rw [fun_upd (i := 2) e10_2]
    obtain ⟨s10_5, A10_5, n10_5, c10_5, e10_5, h10_5⟩ := q5; rw [fun_upd (i := 5) e10_5]
    refine next (g' := [(4, pt (p1 2) 0), (5, pt (p1 3) 0), (10, pt (p4 11) 0), (11, pt (p4 12) 0)]) (bx' := [⟨p1 2, 31, [.bool false, .slice none 0 0]⟩, ⟨p1 3, 31, [.bool false, .slice none 0 0]⟩, ⟨p4 11, 31, [.bool s10_2, .slice A10_2 n10_2 c10_2]⟩, ⟨p4 12, 31, [.bool s10_5, .slice A10_5 n10_5 c10_5]⟩]) (rw' := []) (by kernel_rfl) (by kernel_rfl) (by kernel_rfl) ?_
    refine tri_seq ?_
    refine tri_reg mixed [.con (.agg #[.bool s10_2, .slice A10_2 n10_2 c10_2]), .con (.agg #[.bool s10_5, .slice A10_5 n10_5 c10_5]), .sto ⟨0, 0, .op 0⟩, .sto ⟨1, 0, .op 1⟩, .con (.int .i64 0)] [4, 5, 6] [0, 1] [] ?_ (by decide) ?_ ?_ _ _
    · kernel_rfl
    · exact ⟨ld 2 0 2 ty31, ld 3 0 2 ty31, st 0 0 2 ty31 (fun f u w hs => kn rfl ⟨rfl, rfl⟩), st 1 0 2 ty31 (fun f u w hs => kn rfl ⟨rfl, rfl⟩), pu, trivial⟩
    rintro p11 x11 u11 hg11 -
    replace h10_2 := h10_2.sub hg11.1; replace h10_5 := h10_5.sub hg11.1
    have hG11 := hG10.trans hg11
    refine next (g' := [(4, pt (p1 2) 0), (5, pt (p1 3) 0), (6, .int .i64 0)]) (bx' := [⟨p1 2, 31, [.bool s10_2, .slice A10_2 n10_2 c10_2]⟩, ⟨p1 3, 31, [.bool s10_5, .slice A10_5 n10_5 c10_5]⟩]) (rw' := []) (by kernel_rfl) (by kernel_rfl) (by kernel_rfl) ?_
    exact tri_ret (ret3 rfl (.agg #[.bool s10_2, .slice A10_2 n10_2 c10_2]) (.agg #[.bool s10_5, .slice A10_5 n10_5 c10_5]) (.int .i64 0) (rv_cell 0 (p1 2) 2 31 [.bool s10_2, .slice A10_2 n10_2 c10_2] rfl rfl ty31 rfl rfl rfl) (rv_cell 1 (p1 3) 2 31 [.bool s10_5, .slice A10_5 n10_5 c10_5] rfl rfl ty31 rfl rfl rfl) rfl hG11 (⟨_, _, _, rfl, ⟨_, _, _, _, rfl, by rw [hF.1]; exact h10_2⟩, ⟨_, _, _, _, rfl, by rw [hF.2]; exact h10_5⟩, rfl⟩))

set_option maxRecDepth 100000 in
theorem z_Exact {u : World} {x y : Int} {k l : Nat} {v0 : Value} {v1 : Value} (h0 : Iv u v0 x k) (h1 : Iv u v1 y l) (hk : k ≤ 2199023255552) (hl : l ≤ 2199023255552) (h0y : y ≠ 0) (hd : y ∣ x) : Fn Try.prog 165 #[v0, v1] u (Tup2 (fun u r => Cv u r (x / y)) (Is (.int .i64 0))) := by
  obtain ⟨s0, A0, n0, c0, rfl, h0⟩ := h0
  obtain ⟨s1, A1, n1, c1, rfl, h1⟩ := h1
  have hq : Int.fdiv x y = x / y := Int.fdiv_eq_ediv_of_dvd hd; have hr : Int.fmod x y = 0 := Int.fmod_eq_zero_of_dvd hd
  refine fn_of (args := [_, _]) Try.func165 rfl (by show 2 ≤ 27; decide) ?_
  intro w0 hs0
  have hG0 := Gr.refl w0.heap.size u
  refine tri_seq ?_
  refine tri_reg mixed [.new 31 [.bool s0, .slice A0 n0 c0], .new 31 [.bool s1, .slice A1 n1 c1], .new 31 [.bool false, .slice none 0 0], .con (.int .i64 0)] [2, 3, 4] [0, 1, 2] [] ?_ (by decide) ?_ ?_ _ _
  · kernel_rfl
  · exact ⟨al, al, al, pu, trivial⟩
  rintro p1 x1 u1 hg1 -
  replace h0 := h0.sub hg1.1; replace h1 := h1.sub hg1.1
  have hG1 := hG0.trans hg1
  refine next (g' := [(2, pt (p1 0) 0), (3, pt (p1 1) 0), (4, pt (p1 2) 0)]) (bx' := [⟨p1 0, 31, [.bool s0, .slice A0 n0 c0]⟩, ⟨p1 1, 31, [.bool s1, .slice A1 n1 c1]⟩, ⟨p1 2, 31, [.bool false, .slice none 0 0]⟩]) (rw' := []) (by kernel_rfl) (by kernel_rfl) (by kernel_rfl) ?_
  refine tri_seq ?_
  refine tri_reg mixed [.con (.agg #[.bool s0, .slice A0 n0 c0]), .con (.agg #[.bool s1, .slice A1 n1 c1]), .opq (Tup3 (fun u r => Cv u r (Int.fdiv x y)) (fun u r => Cv u r (Int.fmod x y)) (Is (.int .i64 0))), .opq (Tup3 (fun u r => Cv u r (Int.fdiv x y)) (fun u r => Cv u r (Int.fmod x y)) (Is (.int .i64 0))), .opq (fun u r => Cv u r (Int.fdiv x y)), .opq (fun u r => Cv u r (Int.fmod x y)), .con (.int .i64 0), .new 31 [.bool false, .slice none 0 0], .new 31 [.bool false, .slice none 0 0], .sto ⟨10, 0, .op 4⟩, .sto ⟨11, 0, .op 5⟩, .con (.int .i64 0)] [4, 6, 7, 8] [2, 10, 11] [] ?_ (by decide) ?_ ?_ _ _
  · kernel_rfl
  · exact ⟨ld 0 0 2 ty31, ld 1 0 2 ty31, ca (Tup3.mono (Cv.m _) (Cv.m _) (Is.mono _)) fun f u w hs => (z_Floor ⟨_, _, _, _, rfl, h0.sub hs.old⟩ ⟨_, _, _, _, rfl, h1.sub hs.old⟩ (by omega) (by omega) (by omega)), mv 2 (Tup3.mono (Cv.m _) (Cv.m _) (Is.mono _)), ex3a 3 (Cv.m _), ex3b 3 (Cv.m _), ex3c 3, al, al, sn 7 2 ty31 (fun f u w hs => kn rfl (Cv.flat (hs.opq 4 _ rfl rfl))), sn 8 2 ty31 (fun f u w hs => kn rfl (Cv.flat (hs.opq 5 _ rfl rfl))), pu, trivial⟩
  rintro p2 x2 u2 hg2 ⟨q2, q3, q4, q5, -⟩
  replace h0 := h0.sub hg2.1; replace h1 := h1.sub hg2.1
  have hG2 := hG1.trans hg2
  obtain ⟨s2_4, A2_4, n2_4, c2_4, e2_4, h2_4⟩ := q4; rw [fun_upd (i := 4) e2_4]
  obtain ⟨s2_5, A2_5, n2_5, c2_5, e2_5, h2_5⟩ := q5; rw [fun_upd (i := 5) e2_5]
  refine next (g' := [(4, pt (p1 2) 0), (6, pt (p2 7) 0), (7, pt (p2 8) 0), (8, .int .i64 0)]) (bx' := [⟨p1 2, 31, [.bool false, .slice none 0 0]⟩, ⟨p2 7, 31, [.bool s2_4, .slice A2_4 n2_4 c2_4]⟩, ⟨p2 8, 31, [.bool s2_5, .slice A2_5 n2_5 c2_5]⟩]) (rw' := []) (by kernel_rfl) (by kernel_rfl) (by kernel_rfl) ?_
  refine tri_seq ?_
  refine tri_block ?_
  refine tri_seq ?_
  refine tri_reg mixed [.con (.int .i64 0), .con (.bool false), .con (.bool false)] [4, 6, 7, 8, 16] [0, 1, 2] [] ?_ (by decide) ?_ ?_ _ _
  · kernel_rfl
  · exact ⟨pu, pu, pu, trivial⟩
  rintro p3 x3 u3 hg3 -
  replace h2_4 := h2_4.sub hg3.1; replace h2_5 := h2_5.sub hg3.1
  have hG3 := hG2.trans hg3
  refine next (g' := [(4, pt (p1 2) 0), (6, pt (p2 7) 0), (7, pt (p2 8) 0), (8, .int .i64 0), (16, .bool false)]) (bx' := [⟨p1 2, 31, [.bool false, .slice none 0 0]⟩, ⟨p2 7, 31, [.bool s2_4, .slice A2_4 n2_4 c2_4]⟩, ⟨p2 8, 31, [.bool s2_5, .slice A2_5 n2_5 c2_5]⟩]) (rw' := []) (by kernel_rfl) (by kernel_rfl) (by kernel_rfl) ?_
  refine tri_false rfl ?_
  refine tri_seq ?_
  refine tri_reg mixed [.con (.agg #[.bool s2_5, .slice A2_5 n2_5 c2_5]), .con (.int .i64 (sg (Int.fmod x y))), .con (.bool false), .con (.bool false)] [4, 6, 21] [0, 1] [] ?_ (by decide) ?_ ?_ _ _
  · kernel_rfl
  · exact ⟨ld 2 0 2 ty31, cc fun f u w hs => (z_Sign ⟨_, _, _, _, rfl, (h2_5.sub hs.old).gi (zl_fmod _ (by omega) h1.zl)⟩ (by omega)), pw (bnf (a := (sg (Int.fmod x y))) (b := 0) (by exact sg_iff.2 hr)), pu, trivial⟩
  rintro p4 x4 u4 hg4 -
  replace h2_4 := h2_4.sub hg4.1; replace h2_5 := h2_5.sub hg4.1
  have hG4 := hG3.trans hg4
  refine next (g' := [(4, pt (p1 2) 0), (6, pt (p2 7) 0), (21, .bool false)]) (bx' := [⟨p1 2, 31, [.bool false, .slice none 0 0]⟩, ⟨p2 7, 31, [.bool s2_4, .slice A2_4 n2_4 c2_4]⟩]) (rw' := []) (by kernel_rfl) (by kernel_rfl) (by kernel_rfl) ?_
  refine tri_false rfl ?_
  refine tri_skip ?_
  refine pn_blk ?_
  refine next rfl rfl rfl ?_
  refine tri_seq ?_
  refine tri_reg mixed [.con (.agg #[.bool s2_4, .slice A2_4 n2_4 c2_4]), .sto ⟨0, 0, .op 0⟩, .con (.int .i64 0)] [4, 5] [0] [] ?_ (by decide) ?_ ?_ _ _
  · kernel_rfl
  · exact ⟨ld 1 0 2 ty31, st 0 0 2 ty31 (fun f u w hs => kn rfl ⟨rfl, rfl⟩), pu, trivial⟩
  rintro p5 x5 u5 hg5 -
  replace h2_4 := h2_4.sub hg5.1
  have hG5 := hG4.trans hg5
  refine next (g' := [(4, pt (p1 2) 0), (5, .int .i64 0)]) (bx' := [⟨p1 2, 31, [.bool s2_4, .slice A2_4 n2_4 c2_4]⟩]) (rw' := []) (by kernel_rfl) (by kernel_rfl) (by kernel_rfl) ?_
  exact tri_ret (ret2 rfl (.agg #[.bool s2_4, .slice A2_4 n2_4 c2_4]) (.int .i64 0) (rv_cell 0 (p1 2) 2 31 [.bool s2_4, .slice A2_4 n2_4 c2_4] rfl rfl ty31 rfl rfl rfl) rfl hG5 (⟨_, _, rfl, ⟨_, _, _, _, rfl, by rw [← hq]; exact h2_4⟩, rfl⟩))
end Go.Proofs.Ytaagioghkicdkaa
