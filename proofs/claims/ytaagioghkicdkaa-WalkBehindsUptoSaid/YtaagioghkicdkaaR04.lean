/- Contracts of the document's rationals. -/
import Derived.Test.YtaagioghkicdkaaR03
set_option linter.unusedVariables false
set_option linter.unusedSimpArgs false
namespace Go.Proofs.Ytaagioghkicdkaa
open Go.RowKit Go.Proofs.YtaagioghkicdkaaW.PrintWords Mt
theorem iv_of {u : World} {s : Bool} {v : Value} {N b : Nat} (h : Lv u v N b) : Iv u (.agg #[.bool s, v]) (intv s N) b := by
  obtain ⟨A, n, c, rfl, l, h⟩ := h
  exact ⟨_, _, _, _, rfl, l, _, h, rfl⟩
theorem ci_nat {u : World} {A : Option Addr} {n c N : Nat} (h : LCv u (.slice A n c) N) : CI u false A n c (N : Int) := by
  obtain ⟨A', n', c', e, h⟩ := h
  cases e
  exact ⟨(decide_eq_false (by omega)).symm, by rw [Int.natAbs_natCast]; exact h⟩
theorem wm64 {n m : Int} (h : n % 18446744073709551616 = m) : Value.int .u64 (IntKind.u64.wrap n) = .int .u64 m := by rw [IntKind.wrap_u64, h]
theorem wm32 {n m : Int} (h : n % 4294967296 = m) : Value.int .u32 (IntKind.u32.wrap n) = .int .u32 m := by rw [IntKind.wrap_u32, h]
theorem shr32 (M : Nat) : Value.int .u64 (((M : Int)).fdiv (2 ^ min ((32 : Int)).toNat (IntKind.u64.bits))) = .int .u64 ((M / 4294967296 : Nat) : Int) := by
  rw [show min ((32 : Int)).toNat (IntKind.u64.bits) = 32 from rfl, Int.fdiv_eq_ediv_of_nonneg _ (Int.le_of_lt (pow2_pos _))]; rfl
namespace Mt
theorem add_eq {x y : Int} {s t : Bool} (h : x = intv s x.natAbs) (k : y = intv t y.natAbs) (e : s = t) : x + y = intv s (x.natAbs + y.natAbs) := by subst e; cases s <;> simp [intv] at h k ⊢ <;> omega
theorem add_ge {x y : Int} {s t : Bool} (h : x = intv s x.natAbs) (k : y = intv t y.natAbs) (e : s ≠ t) (l : y.natAbs ≤ x.natAbs) : x + y = intv s (x.natAbs - y.natAbs) := by cases s <;> cases t <;> simp [intv] at h k e ⊢ <;> omega
theorem add_lt {x y : Int} {s t : Bool} (h : x = intv s x.natAbs) (k : y = intv t y.natAbs) (e : s ≠ t) (l : x.natAbs ≤ y.natAbs) : x + y = intv t (y.natAbs - x.natAbs) := by cases s <;> cases t <;> simp [intv] at h k e ⊢ <;> omega
theorem sgnc_ge {a b : Nat} (h : 0 ≤ sgnc a b) : b ≤ a := Nat.le_of_not_lt fun k => by rw [sgnc_lt (by omega)] at h; omega
theorem sgnc_le {a b : Nat} (h : ¬ 0 ≤ sgnc a b) : a ≤ b := Nat.le_of_not_lt fun k => by rw [sgnc_gt (by omega)] at h; omega
theorem two_limbs_of {M : Nat} (h : M < 18446744073709551616) : Lim [((M % 4294967296 : Nat) : Int), ((M / 4294967296 : Nat) : Int)] ∧ val [((M % 4294967296 : Nat) : Int), ((M / 4294967296 : Nat) : Int)] = M ∧ lim M ≤ 2 := ⟨Lim.cons (by omega) (by omega) (Lim.one (by omega) (by omega)), by rw [val_cons, val_one]; omega, lim_le (by rw [B_succ, B_succ, B_zero]; omega)⟩
theorem rest_is {x y : Int} {s t : Bool} (h : x = intv s x.natAbs) (k : y = intv t y.natAbs) : x - intv (s != t) (x.natAbs / y.natAbs) * y = intv s (x.natAbs % y.natAbs) := by
  have e := Nat.div_add_mod x.natAbs y.natAbs
  generalize x.natAbs = M at *; generalize y.natAbs = N at *; subst h; subst k
  generalize M / N = q at *; generalize M % N = r at *; subst e
  rw [intv_mul]
  have : (!((s != t) == t)) = s := by cases s <;> cases t <;> rfl
  rw [this, Nat.mul_comm q N]
  cases s <;> simp [intv] <;> omega
theorem div_is {X : Int} {s : Bool} (hs : s = decide (X < 0)) {g : Nat} (hd : g ∣ X.natAbs) : intv s (X.natAbs / g) = X / (g : Int) := by
  subst hs
  obtain ⟨q, hq⟩ := hd
  rcases Nat.eq_zero_or_pos g with h0 | h0
  · subst h0; simp [intv]
  · rw [hq, Nat.mul_div_cancel_left _ h0]
    by_cases hx : X < 0
    · rw [decide_eq_true hx, show X = (g : Int) * (-(q : Int)) by rw [Int.mul_neg]; exact_mod_cast (by omega : X = -((g * q : Nat) : Int)), Int.mul_ediv_cancel_left _ (by omega)]; rfl
    · rw [decide_eq_false hx, show X = (g : Int) * (q : Int) by exact_mod_cast (by omega : X = ((g * q : Nat) : Int)), Int.mul_ediv_cancel_left _ (by omega)]; rfl
theorem rat_nz {b : Int} (h : b ≠ 0) : ((b : Int) : Rat) ≠ 0 := fun e => h (Rat.intCast_eq_zero_iff.1 e)
theorem rat_add {a b c d : Int} (hb : b ≠ 0) (hd : d ≠ 0) : (a : Rat) / b + (c : Rat) / d = ((a * d + c * b : Int) : Rat) / ((b * d : Int) : Rat) := by
  have h1 := rat_nz hb; have h2 := rat_nz hd; push_cast; grind
theorem rat_mul {a b c d : Int} (hb : b ≠ 0) (hd : d ≠ 0) : (a : Rat) / b * ((c : Rat) / d) = ((a * c : Int) : Rat) / ((b * d : Int) : Rat) := by
  have h1 := rat_nz hb; have h2 := rat_nz hd; push_cast; grind
theorem rat_div {a b c d : Int} (hb : b ≠ 0) (hd : d ≠ 0) (hc : c ≠ 0) : (a : Rat) / b / ((c : Rat) / d) = ((a * d : Int) : Rat) / ((b * c : Int) : Rat) := by
  have h1 := rat_nz hb; have h2 := rat_nz hd; have h3 := rat_nz hc; push_cast; grind
theorem rat_opp {a b : Int} : -((a : Rat) / b) = ((-a : Int) : Rat) / b := by push_cast; grind
theorem rat_sub {a b c d : Int} (hb : b ≠ 0) (hd : d ≠ 0) : (a : Rat) / b - (c : Rat) / d = (a : Rat) / b + ((-((c : Rat) / d)).num : Rat) / (((-((c : Rat) / d)).den : Int) : Rat) := by
  rw [rat_of]; grind
theorem rden_nz (q : Rat) : (q.den : Int) ≠ 0 := by have := q.den_nz; omega
end Mt

set_option maxRecDepth 100000 in
theorem r02_Add {u : World} {x y : Int} {k l : Nat} {v0 : Value} {v1 : Value} (h0 : Iv u v0 x k) (h1 : Iv u v1 y l) (hk : k ≤ 4398046511104) (hl : l ≤ 4398046511104) : Fn Try.prog 72 #[v0, v1] u (fun u r => Cv u r (x + y)) := by
  obtain ⟨s0, A0, n0, c0, rfl, h0⟩ := h0
  obtain ⟨s1, A1, n1, c1, rfl, h1⟩ := h1
  have hx := h0.is; have hy := h1.is; have hl0 : lim x.natAbs ≤ k := h0.zl; have hl1 : lim y.natAbs ≤ l := h1.zl
  refine fn_of (args := [_, _]) Try.func72 rfl (by show 2 ≤ 52; decide) ?_
  intro w0 hs0
  have hG0 := Gr.refl w0.heap.size u
  refine tri_seq ?_
  refine tri_reg mixed [.new 31 [.bool s0, .slice A0 n0 c0], .new 31 [.bool s1, .slice A1 n1 c1], .new 31 [.bool false, .slice none 0 0]] [2, 3, 4] [0, 1, 2] [] ?_ (by decide) ?_ ?_ _ _
  · kernel_rfl
  · exact ⟨al, al, al, trivial⟩
  rintro p1 x1 u1 hg1 -
  replace h0 := h0.sub hg1.1; replace h1 := h1.sub hg1.1
  have hG1 := hG0.trans hg1
  refine next (g' := [(2, pt (p1 0) 0), (3, pt (p1 1) 0), (4, pt (p1 2) 0)]) (bx' := [⟨p1 0, 31, [.bool s0, .slice A0 n0 c0]⟩, ⟨p1 1, 31, [.bool s1, .slice A1 n1 c1]⟩, ⟨p1 2, 31, [.bool false, .slice none 0 0]⟩]) (rw' := []) (by kernel_rfl) (by kernel_rfl) (by kernel_rfl) ?_
  refine tri_seq ?_
  refine tri_seq ?_
  refine tri_reg mixed [.con (pt (p1 0) 0), .con (.bool s0), .con (pt (p1 1) 0), .con (.bool s1), .con (.bool (s0 == s1))] [2, 3, 4, 13] [0, 1, 2] [] ?_ (by decide) ?_ ?_ _ _
  · kernel_rfl
  · exact ⟨pu, ld 0 0 1 ty4, pu, ld 1 0 1 ty4, pu, trivial⟩
  rintro p2 x2 u2 hg2 -
  replace h0 := h0.sub hg2.1; replace h1 := h1.sub hg2.1
  have hG2 := hG1.trans hg2
  refine next (g' := [(2, pt (p1 0) 0), (3, pt (p1 1) 0), (4, pt (p1 2) 0), (13, .bool (s0 == s1))]) (bx' := [⟨p1 0, 31, [.bool s0, .slice A0 n0 c0]⟩, ⟨p1 1, 31, [.bool s1, .slice A1 n1 c1]⟩, ⟨p1 2, 31, [.bool false, .slice none 0 0]⟩]) (rw' := []) (by kernel_rfl) (by kernel_rfl) (by kernel_rfl) ?_
  refine tri_cond (b := (s0 == s1)) rfl (fun hc => ?_) (fun hc => ?_)
  · replace hc := eq_of_beq hc
    have he := hc
    refine tri_seq ?_
    refine tri_reg mixed [.con (pt (p1 0) 0), .con (.bool s0), .con (pt (p1 0) 1), .con (.slice A0 n0 c0), .con (pt (p1 1) 1), .con (.slice A1 n1 c1), .opq (fun u r => LCv u r ((x).natAbs + (y).natAbs)), .opq (fun u r => Cv u r (intv s0 ((x).natAbs + (y).natAbs))), .sto ⟨2, 0, .op 7⟩] [4] [2] [] ?_ (by decide) ?_ ?_ _ _
    · kernel_rfl
    · exact ⟨pu, ld 0 0 1 ty4, pu, ld 0 1 1 ty29, pu, ld 1 1 1 ty29, ca (LCv.m _) fun f u w hs => (r01_Add ⟨_, _, _, rfl, (h0.sub hs.old).1, GI.rn (h0.sub hs.old)⟩ ⟨_, _, _, rfl, (h1.sub hs.old).1, GI.rn (h1.sub hs.old)⟩ (by omega) (by omega)), ca (Cv.m _) fun f u w hs => (r02_made (LCv.lv (b := (k + l + 1)) (hs.opq 6 _ rfl rfl) (lim_add2 h0.zl h1.zl)) (by omega)), st 2 0 2 ty31 (fun f u w hs => kn rfl (Cv.flat (hs.opq 7 _ rfl rfl))), trivial⟩
    rintro p3 x3 u3 hg3 ⟨q6, q7, -⟩
    replace h0 := h0.sub hg3.1; replace h1 := h1.sub hg3.1
    have hG3 := hG2.trans hg3
    obtain ⟨s3_7, A3_7, n3_7, c3_7, e3_7, h3_7⟩ := q7; rw [fun_upd (i := 7) e3_7]
    refine next (g' := [(4, pt (p1 2) 0)]) (bx' := [⟨p1 2, 31, [.bool s3_7, .slice A3_7 n3_7 c3_7]⟩]) (rw' := []) (by kernel_rfl) (by kernel_rfl) (by kernel_rfl) ?_
    exact tri_ret (ret1 rfl (.agg #[.bool s3_7, .slice A3_7 n3_7 c3_7]) (rv_cell 0 (p1 2) 2 31 [.bool s3_7, .slice A3_7 n3_7 c3_7] rfl rfl ty31 rfl rfl rfl) hG3 (⟨_, _, _, _, rfl, by rw [add_eq hx hy he]; exact h3_7⟩))
  · replace hc := ne_of_beq_false hc
    have he := hc
    refine tri_skip ?_
    refine next rfl rfl rfl ?_
    refine tri_seq ?_
    refine tri_seq ?_
    refine tri_reg mixed [.con (pt (p1 0) 1), .con (.slice A0 n0 c0), .con (pt (p1 1) 1), .con (.slice A1 n1 c1), .con (.int .i64 (sgnc ((x).natAbs : Nat) ((y).natAbs : Nat))), .con (.bool (decide (0 ≤ (sgnc ((x).natAbs : Nat) ((y).natAbs : Nat)))))] [2, 3, 4, 27] [0, 1, 2] [] ?_ (by decide) ?_ ?_ _ _
    · kernel_rfl
    · exact ⟨pu, ld 0 1 1 ty29, pu, ld 1 1 1 ty29, cc fun f u w hs => (r01_Cmp ⟨_, _, _, rfl, (h0.sub hs.old).1, GI.rn (h0.sub hs.old)⟩ ⟨_, _, _, rfl, (h1.sub hs.old).1, GI.rn (h1.sub hs.old)⟩ (by omega) (by omega)), pu, trivial⟩
    rintro p4 x4 u4 hg4 -
    replace h0 := h0.sub hg4.1; replace h1 := h1.sub hg4.1
    have hG4 := hG2.trans hg4
    refine next (g' := [(2, pt (p1 0) 0), (3, pt (p1 1) 0), (4, pt (p1 2) 0), (27, .bool (decide (0 ≤ (sgnc ((x).natAbs : Nat) ((y).natAbs : Nat)))))]) (bx' := [⟨p1 0, 31, [.bool s0, .slice A0 n0 c0]⟩, ⟨p1 1, 31, [.bool s1, .slice A1 n1 c1]⟩, ⟨p1 2, 31, [.bool false, .slice none 0 0]⟩]) (rw' := []) (by kernel_rfl) (by kernel_rfl) (by kernel_rfl) ?_
    refine tri_cond (b := (decide (0 ≤ (sgnc ((x).natAbs : Nat) ((y).natAbs : Nat))))) rfl (fun hc => ?_) (fun hc => ?_)
    · replace hc := of_decide_eq_true hc
      have hle := sgnc_ge hc
      refine tri_seq ?_
      refine tri_reg mixed [.con (pt (p1 0) 1), .con (.slice A0 n0 c0), .con (pt (p1 1) 1), .con (.slice A1 n1 c1), .opq (Tup2 (fun u r => LCv u r ((x).natAbs - (y).natAbs)) (Is (.int .i64 0))), .opq (Tup2 (fun u r => LCv u r ((x).natAbs - (y).natAbs)) (Is (.int .i64 0))), .opq (fun u r => LCv u r ((x).natAbs - (y).natAbs)), .con (.int .i64 0), .cpy 6, .con (.int .i64 0)] [2, 4, 5] [0, 2] [] ?_ (by decide) ?_ ?_ _ _
      · kernel_rfl
      · exact ⟨pu, ld 0 1 1 ty29, pu, ld 1 1 1 ty29, ca (Tup2.mono (LCv.m _) (Is.mono _)) fun f u w hs => (r01_Sub ⟨_, _, _, rfl, (h0.sub hs.old).1, GI.rn (h0.sub hs.old)⟩ ⟨_, _, _, rfl, (h1.sub hs.old).1, GI.rn (h1.sub hs.old)⟩ (by omega) (by omega) (by omega)), mv 4 (Tup2.mono (LCv.m _) (Is.mono _)), ex2a 5 (LCv.m _), ex2c 5, cp, pu, trivial⟩
      rintro p5 x5 u5 hg5 ⟨q4, q5, q6, -⟩
      replace h0 := h0.sub hg5.1; replace h1 := h1.sub hg5.1
      have hG5 := hG4.trans hg5
      obtain ⟨A5_6, n5_6, c5_6, e5_6, h5_6, l5_6, l5_6n, l5_6M⟩ := q6.open; rw [fun_upd (i := 6) e5_6]
      refine next (g' := [(2, pt (p1 0) 0), (4, pt (p1 2) 0), (5, .slice A5_6 n5_6 c5_6)]) (bx' := [⟨p1 0, 31, [.bool s0, .slice A0 n0 c0]⟩, ⟨p1 2, 31, [.bool false, .slice none 0 0]⟩]) (rw' := []) (by kernel_rfl) (by kernel_rfl) (by kernel_rfl) ?_
      refine tri_seq ?_
      refine tri_reg mixed [.con (pt (p1 0) 0), .con (.bool s0), .con (.slice A5_6 n5_6 c5_6), .opq (fun u r => Cv u r (intv s0 ((x).natAbs - (y).natAbs))), .sto ⟨1, 0, .op 3⟩] [4] [1] [] ?_ (by decide) ?_ ?_ _ _
      · kernel_rfl
      · exact ⟨pu, ld 0 0 1 ty4, pu, ca (Cv.m _) fun f u w hs => (r02_made (Lv.of (b := k) (h5_6.sub dLk hs.old) (dig_lim _) (dig_val _) (Nat.le_trans (lim_mono (Nat.sub_le _ _)) h0.zl)) (by omega)), st 1 0 2 ty31 (fun f u w hs => kn rfl (Cv.flat (hs.opq 3 _ rfl rfl))), trivial⟩
      rintro p6 x6 u6 hg6 ⟨q3, -⟩
      replace h0 := h0.sub hg6.1; replace h5_6 := h5_6.sub dLk hg6.1
      have hG6 := hG5.trans hg6
      obtain ⟨s6_3, A6_3, n6_3, c6_3, e6_3, h6_3⟩ := q3; rw [fun_upd (i := 3) e6_3]
      refine next (g' := [(4, pt (p1 2) 0)]) (bx' := [⟨p1 2, 31, [.bool s6_3, .slice A6_3 n6_3 c6_3]⟩]) (rw' := []) (by kernel_rfl) (by kernel_rfl) (by kernel_rfl) ?_
      exact tri_ret (ret1 rfl (.agg #[.bool s6_3, .slice A6_3 n6_3 c6_3]) (rv_cell 0 (p1 2) 2 31 [.bool s6_3, .slice A6_3 n6_3 c6_3] rfl rfl ty31 rfl rfl rfl) hG6 (⟨_, _, _, _, rfl, by rw [add_ge hx hy he hle]; exact h6_3⟩))
    · replace hc := of_decide_eq_false hc
      have hle := sgnc_le hc
      refine tri_skip ?_
      refine next rfl rfl rfl ?_
      refine tri_seq ?_
      refine tri_reg mixed [.con (pt (p1 1) 1), .con (.slice A1 n1 c1), .con (pt (p1 0) 1), .con (.slice A0 n0 c0), .opq (Tup2 (fun u r => LCv u r ((y).natAbs - (x).natAbs)) (Is (.int .i64 0))), .opq (Tup2 (fun u r => LCv u r ((y).natAbs - (x).natAbs)) (Is (.int .i64 0))), .opq (fun u r => LCv u r ((y).natAbs - (x).natAbs)), .con (.int .i64 0), .cpy 6, .con (.int .i64 0)] [3, 4, 7] [1, 2] [] ?_ (by decide) ?_ ?_ _ _
      · kernel_rfl
      · exact ⟨pu, ld 1 1 1 ty29, pu, ld 0 1 1 ty29, ca (Tup2.mono (LCv.m _) (Is.mono _)) fun f u w hs => (r01_Sub ⟨_, _, _, rfl, (h1.sub hs.old).1, GI.rn (h1.sub hs.old)⟩ ⟨_, _, _, rfl, (h0.sub hs.old).1, GI.rn (h0.sub hs.old)⟩ (by omega) (by omega) (by omega)), mv 4 (Tup2.mono (LCv.m _) (Is.mono _)), ex2a 5 (LCv.m _), ex2c 5, cp, pu, trivial⟩
      rintro p7 x7 u7 hg7 ⟨q4, q5, q6, -⟩
      replace h0 := h0.sub hg7.1; replace h1 := h1.sub hg7.1
      have hG7 := hG4.trans hg7
      obtain ⟨A7_6, n7_6, c7_6, e7_6, h7_6, l7_6, l7_6n, l7_6M⟩ := q6.open; rw [fun_upd (i := 6) e7_6]
      refine next (g' := [(3, pt (p1 1) 0), (4, pt (p1 2) 0), (7, .slice A7_6 n7_6 c7_6)]) (bx' := [⟨p1 1, 31, [.bool s1, .slice A1 n1 c1]⟩, ⟨p1 2, 31, [.bool false, .slice none 0 0]⟩]) (rw' := []) (by kernel_rfl) (by kernel_rfl) (by kernel_rfl) ?_
      refine tri_seq ?_
      refine tri_reg mixed [.con (pt (p1 1) 0), .con (.bool s1), .con (.slice A7_6 n7_6 c7_6), .opq (fun u r => Cv u r (intv s1 ((y).natAbs - (x).natAbs))), .sto ⟨1, 0, .op 3⟩] [4] [1] [] ?_ (by decide) ?_ ?_ _ _
      · kernel_rfl
      · exact ⟨pu, ld 0 0 1 ty4, pu, ca (Cv.m _) fun f u w hs => (r02_made (Lv.of (b := l) (h7_6.sub dLk hs.old) (dig_lim _) (dig_val _) (Nat.le_trans (lim_mono (Nat.sub_le _ _)) h1.zl)) (by omega)), st 1 0 2 ty31 (fun f u w hs => kn rfl (Cv.flat (hs.opq 3 _ rfl rfl))), trivial⟩
      rintro p8 x8 u8 hg8 ⟨q3, -⟩
      replace h1 := h1.sub hg8.1; replace h7_6 := h7_6.sub dLk hg8.1
      have hG8 := hG7.trans hg8
      obtain ⟨s8_3, A8_3, n8_3, c8_3, e8_3, h8_3⟩ := q3; rw [fun_upd (i := 3) e8_3]
      refine next (g' := [(4, pt (p1 2) 0)]) (bx' := [⟨p1 2, 31, [.bool s8_3, .slice A8_3 n8_3 c8_3]⟩]) (rw' := []) (by kernel_rfl) (by kernel_rfl) (by kernel_rfl) ?_
      exact tri_ret (ret1 rfl (.agg #[.bool s8_3, .slice A8_3 n8_3 c8_3]) (rv_cell 0 (p1 2) 2 31 [.bool s8_3, .slice A8_3 n8_3 c8_3] rfl rfl ty31 rfl rfl rfl) hG8 (⟨_, _, _, _, rfl, by rw [add_lt hx hy he hle]; exact h8_3⟩))

set_option maxRecDepth 100000 in
theorem r02_Sub {u : World} {x y : Int} {k l : Nat} {v0 : Value} {v1 : Value} (h0 : Iv u v0 x k) (h1 : Iv u v1 y l) (hk : k ≤ 4398046511104) (hl : l ≤ 4398046511104) : Fn Try.prog 104 #[v0, v1] u (fun u r => Cv u r (x - y)) := by
  obtain ⟨s0, A0, n0, c0, rfl, h0⟩ := h0
  obtain ⟨s1, A1, n1, c1, rfl, h1⟩ := h1
  refine fn_of (args := [_, _]) Try.func104 rfl (by show 2 ≤ 9; decide) ?_
  intro w0 hs0
  have hG0 := Gr.refl w0.heap.size u
  refine tri_seq ?_
  refine tri_reg mixed [.new 31 [.bool s0, .slice A0 n0 c0], .new 31 [.bool s1, .slice A1 n1 c1], .new 31 [.bool false, .slice none 0 0]] [2, 3, 4] [0, 1, 2] [] ?_ (by decide) ?_ ?_ _ _
  · kernel_rfl
  · exact ⟨al, al, al, trivial⟩
  rintro p1 x1 u1 hg1 -
  replace h0 := h0.sub hg1.1; replace h1 := h1.sub hg1.1
  have hG1 := hG0.trans hg1
  refine next (g' := [(2, pt (p1 0) 0), (3, pt (p1 1) 0), (4, pt (p1 2) 0)]) (bx' := [⟨p1 0, 31, [.bool s0, .slice A0 n0 c0]⟩, ⟨p1 1, 31, [.bool s1, .slice A1 n1 c1]⟩, ⟨p1 2, 31, [.bool false, .slice none 0 0]⟩]) (rw' := []) (by kernel_rfl) (by kernel_rfl) (by kernel_rfl) ?_
  refine tri_seq ?_
  refine tri_reg mixed [.con (.agg #[.bool s0, .slice A0 n0 c0]), .con (.agg #[.bool s1, .slice A1 n1 c1]), .opq (fun u r => Cv u r (-y)), .opq (fun u r => Cv u r (x + (-y))), .sto ⟨2, 0, .op 3⟩] [4] [2] [] ?_ (by decide) ?_ ?_ _ _
  · kernel_rfl
  · exact ⟨ld 0 0 2 ty31, ld 1 0 2 ty31, ca (Cv.m _) fun f u w hs => (r02_Neg ⟨_, _, _, _, rfl, h1.sub hs.old⟩ (by omega)), ca (Cv.m _) fun f u w hs => (r02_Add ⟨_, _, _, _, rfl, h0.sub hs.old⟩ ((hs.opq 2 _ rfl rfl).iv (zl_neg h1.zl)) (by omega) (by omega)), st 2 0 2 ty31 (fun f u w hs => kn rfl (Cv.flat (hs.opq 3 _ rfl rfl))), trivial⟩
  rintro p2 x2 u2 hg2 ⟨q2, q3, -⟩
  replace h0 := h0.sub hg2.1; replace h1 := h1.sub hg2.1
  have hG2 := hG1.trans hg2
  obtain ⟨s2_3, A2_3, n2_3, c2_3, e2_3, h2_3⟩ := q3; rw [fun_upd (i := 3) e2_3]
  refine next (g' := [(4, pt (p1 2) 0)]) (bx' := [⟨p1 2, 31, [.bool s2_3, .slice A2_3 n2_3 c2_3]⟩]) (rw' := []) (by kernel_rfl) (by kernel_rfl) (by kernel_rfl) ?_
  exact tri_ret (ret1 rfl (.agg #[.bool s2_3, .slice A2_3 n2_3 c2_3]) (rv_cell 0 (p1 2) 2 31 [.bool s2_3, .slice A2_3 n2_3 c2_3] rfl rfl ty31 rfl rfl rfl) hG2 (⟨_, _, _, _, rfl, by rw [Int.sub_eq_add_neg]; exact h2_3⟩))

set_option maxRecDepth 100000 in
theorem r02_Cmp {u : World} {x y : Int} {k l : Nat} {v0 : Value} {v1 : Value} (h0 : Iv u v0 x k) (h1 : Iv u v1 y l) (hk : k ≤ 1099511627776) (hl : l ≤ 1099511627776) : Fn Try.prog 64 #[v0, v1] u (Is (.int .i64 (sg (x - y)))) := by
  obtain ⟨s0, A0, n0, c0, rfl, h0⟩ := h0
  obtain ⟨s1, A1, n1, c1, rfl, h1⟩ := h1
  refine fn_of (args := [_, _]) Try.func64 rfl (by show 2 ≤ 9; decide) ?_
  intro w0 hs0
  have hG0 := Gr.refl w0.heap.size u
  refine tri_seq ?_
  refine tri_reg mixed [.new 31 [.bool s0, .slice A0 n0 c0], .new 31 [.bool s1, .slice A1 n1 c1], .con (.int .i64 0)] [2, 3] [0, 1] [] ?_ (by decide) ?_ ?_ _ _
  · kernel_rfl
  · exact ⟨al, al, pu, trivial⟩
  rintro p1 x1 u1 hg1 -
  replace h0 := h0.sub hg1.1; replace h1 := h1.sub hg1.1
  have hG1 := hG0.trans hg1
  refine next (g' := [(2, pt (p1 0) 0), (3, pt (p1 1) 0)]) (bx' := [⟨p1 0, 31, [.bool s0, .slice A0 n0 c0]⟩, ⟨p1 1, 31, [.bool s1, .slice A1 n1 c1]⟩]) (rw' := []) (by kernel_rfl) (by kernel_rfl) (by kernel_rfl) ?_
  refine tri_seq ?_
  refine tri_reg mixed [.con (.agg #[.bool s0, .slice A0 n0 c0]), .con (.agg #[.bool s1, .slice A1 n1 c1]), .opq (fun u r => Cv u r (x - y)), .con (.int .i64 (sg (x - y))), .con (.int .i64 (sg (x - y)))] [4] [] [] ?_ (by decide) ?_ ?_ _ _
  · kernel_rfl
  · exact ⟨ld 0 0 2 ty31, ld 1 0 2 ty31, ca (Cv.m _) fun f u w hs => (r02_Sub ⟨_, _, _, _, rfl, h0.sub hs.old⟩ ⟨_, _, _, _, rfl, h1.sub hs.old⟩ (by omega) (by omega)), cc fun f u w hs => (r02_Sign ((hs.opq 2 _ rfl rfl).iv (zl_sub h0.zl h1.zl)) (by omega)), pu, trivial⟩
  rintro p2 x2 u2 hg2 ⟨q2, -⟩
  replace h0 := h0.sub hg2.1; replace h1 := h1.sub hg2.1
  have hG2 := hG1.trans hg2
  refine next (g' := [(4, .int .i64 (sg (x - y)))]) (bx' := []) (rw' := []) (by kernel_rfl) (by kernel_rfl) (by kernel_rfl) ?_
  exact tri_ret (ret1 rfl (.int .i64 (sg (x - y))) rfl hG2 (rfl))

set_option maxRecDepth 100000 in
theorem r02_Of {u : World} {n : Int}   (h0 : -9223372036854775808 ≤ n) (h1 : n < 9223372036854775808) : Fn Try.prog 60 #[.int .i64 n] u (fun u r => Cv u r n) := by
  refine fn_of (args := [_]) Try.func60 rfl (by show 1 ≤ 19; decide) ?_
  intro w0 hs0
  have hG0 := Gr.refl w0.heap.size u
  refine tri_seq ?_
  refine tri_reg mixed [.new 31 [.bool false, .slice none 0 0]] [0, 2] [0] [] ?_ (by decide) ?_ ?_ _ _
  · kernel_rfl
  · exact ⟨al, trivial⟩
  rintro p1 x1 u1 hg1 -
  have hG1 := hG0.trans hg1
  refine next (g' := [(0, .int .i64 n), (2, pt (p1 0) 0)]) (bx' := [⟨p1 0, 31, [.bool false, .slice none 0 0]⟩]) (rw' := []) (by kernel_rfl) (by kernel_rfl) (by kernel_rfl) ?_
  refine tri_seq ?_
  rcases Classical.em (n < 0) with hn | hn
  · obtain ⟨M, rfl⟩ : ∃ M : Nat, n = -(M : Int) := ⟨n.natAbs, by omega⟩; have hM : M < 18446744073709551616 := (by omega); have hT := two_limbs_of hM
    refine tri_reg mixed [.con (.int .i64 (-(M : Int))), .con (.int .u64 (18446744073709551616 - (M : Int))), .con (.int .u64 (18446744073709551616 - (M : Int)))] [0, 2, 3] [0] [] ?_ (by decide) ?_ ?_ _ _
    · kernel_rfl
    · exact ⟨pu, pw (wm64 (n := (-(M : Int))) (by omega)), pu, trivial⟩
    rintro p2 x2 u2 hg2 -
    have hG2 := hG1.trans hg2
    refine next (g' := [(0, .int .i64 (-(M : Int))), (2, pt (p1 0) 0), (3, .int .u64 (18446744073709551616 - (M : Int)))]) (bx' := [⟨p1 0, 31, [.bool false, .slice none 0 0]⟩]) (rw' := []) (by kernel_rfl) (by kernel_rfl) (by kernel_rfl) ?_
    refine tri_seq ?_
    refine tri_seq ?_
    refine tri_reg mixed [.con (.int .i64 (-(M : Int))), .con (.bool true)] [0, 2, 3, 7] [0] [] ?_ (by decide) ?_ ?_ _ _
    · kernel_rfl
    · exact ⟨pu, pw (bt (p := (-(M : Int)) < 0) (by omega)), trivial⟩
    rintro p3 x3 u3 hg3 -
    have hG3 := hG2.trans hg3
    refine next (g' := [(0, .int .i64 (-(M : Int))), (2, pt (p1 0) 0), (3, .int .u64 (18446744073709551616 - (M : Int))), (7, .bool true)]) (bx' := [⟨p1 0, 31, [.bool false, .slice none 0 0]⟩]) (rw' := []) (by kernel_rfl) (by kernel_rfl) (by kernel_rfl) ?_
    refine tri_true rfl ?_
    refine tri_reg mixed [.con (.int .u64 (18446744073709551616 - (M : Int))), .con (.int .u64 (M : Int)), .con (.int .u64 (M : Int))] [0, 2, 3] [0] [] ?_ (by decide) ?_ ?_ _ _
    · kernel_rfl
    · exact ⟨pu, pw (wm64 (n := 0 - (18446744073709551616 - (M : Int))) (by omega)), pu, trivial⟩
    rintro p4 x4 u4 hg4 -
    have hG4 := hG3.trans hg4
    refine next (g' := [(0, .int .i64 (-(M : Int))), (2, pt (p1 0) 0), (3, .int .u64 (M : Int))]) (bx' := [⟨p1 0, 31, [.bool false, .slice none 0 0]⟩]) (rw' := []) (by kernel_rfl) (by kernel_rfl) (by kernel_rfl) ?_
    refine tri_seq ?_
    refine tri_reg mixed [.con (.int .i64 (-(M : Int))), .con (.bool true), .con (.int .u64 (M : Int)), .con (.int .u32 ((M % 4294967296 : Nat) : Int)), .con (.int .u64 (M : Int)), .con (.int .u64 ((M / 4294967296 : Nat) : Int)), .con (.int .u32 ((M / 4294967296 : Nat) : Int)), .opq (fun u r => Sl dL u r [((M % 4294967296 : Nat) : Int), ((M / 4294967296 : Nat) : Int)]), .opq (fun u r => Cv u r (intv true M)), .sto ⟨0, 0, .op 8⟩] [2] [0] [] ?_ (by decide) ?_ ?_ _ _
    · kernel_rfl
    · exact ⟨pu, pw (bt (p := (-(M : Int)) < 0) (by omega)), pu, pw (wm32 (n := (M : Int)) (by omega)), pu, osr (yk := .u64) (d := 32) (by omega) (shr32 M), pw (wu32 (n := ((M / 4294967296 : Nat) : Int)) (by omega)), bsX (m := 2) (e := 93) dLk rfl (by decide) fun f u w hs => by exact ⟨[.int .u32 ((M % 4294967296 : Nat) : Int), .int .u32 ((M / 4294967296 : Nat) : Int)], ⟨[.int .u32 ((M % 4294967296 : Nat) : Int)], _, rfl, rfl, ⟨[.int .u32 ((M / 4294967296 : Nat) : Int)], _, rfl, rfl, rfl⟩⟩, by kernel_rfl⟩, ca (Cv.m _) fun f u w hs => (r02_made (Lv.of (b := 2) (hs.opq 7 _ rfl rfl) hT.1 hT.2.1 (Nat.le_refl 2)) (by omega)), st 0 0 2 ty31 (fun f u w hs => kn rfl (Cv.flat (hs.opq 8 _ rfl rfl))), trivial⟩
    rintro p5 x5 u5 hg5 ⟨q7, q8, -⟩
    have hG5 := hG4.trans hg5
    obtain ⟨s5_8, A5_8, n5_8, c5_8, e5_8, h5_8⟩ := q8; rw [fun_upd (i := 8) e5_8]
    refine next (g' := [(2, pt (p1 0) 0)]) (bx' := [⟨p1 0, 31, [.bool s5_8, .slice A5_8 n5_8 c5_8]⟩]) (rw' := []) (by kernel_rfl) (by kernel_rfl) (by kernel_rfl) ?_
    exact tri_ret (ret1 rfl (.agg #[.bool s5_8, .slice A5_8 n5_8 c5_8]) (rv_cell 0 (p1 0) 2 31 [.bool s5_8, .slice A5_8 n5_8 c5_8] rfl rfl ty31 rfl rfl rfl) hG5 (⟨_, _, _, _, rfl, by have := h5_8; simpa [intv] using this⟩))
  · obtain ⟨M, rfl⟩ : ∃ M : Nat, n = (M : Int) := ⟨n.natAbs, by omega⟩; have hM : M < 18446744073709551616 := (by omega); have hT := two_limbs_of hM
    refine tri_reg mixed [.con (.int .i64 (M : Int)), .con (.int .u64 (M : Int)), .con (.int .u64 (M : Int))] [0, 2, 3] [0] [] ?_ (by decide) ?_ ?_ _ _
    · kernel_rfl
    · exact ⟨pu, pw (wu64 (n := (M : Int)) (by omega)), pu, trivial⟩
    rintro p6 x6 u6 hg6 -
    have hG6 := hG1.trans hg6
    refine next (g' := [(0, .int .i64 (M : Int)), (2, pt (p1 0) 0), (3, .int .u64 (M : Int))]) (bx' := [⟨p1 0, 31, [.bool false, .slice none 0 0]⟩]) (rw' := []) (by kernel_rfl) (by kernel_rfl) (by kernel_rfl) ?_
    refine tri_seq ?_
    refine tri_seq ?_
    refine tri_reg mixed [.con (.int .i64 (M : Int)), .con (.bool false)] [0, 2, 3, 7] [0] [] ?_ (by decide) ?_ ?_ _ _
    · kernel_rfl
    · exact ⟨pu, pw (bf (p := (M : Int) < 0) (by omega)), trivial⟩
    rintro p7 x7 u7 hg7 -
    have hG7 := hG6.trans hg7
    refine next (g' := [(0, .int .i64 (M : Int)), (2, pt (p1 0) 0), (3, .int .u64 (M : Int)), (7, .bool false)]) (bx' := [⟨p1 0, 31, [.bool false, .slice none 0 0]⟩]) (rw' := []) (by kernel_rfl) (by kernel_rfl) (by kernel_rfl) ?_
    refine tri_false rfl ?_
    refine tri_skip ?_
    refine next rfl rfl rfl ?_
    refine tri_seq ?_
    refine tri_reg mixed [.con (.int .i64 (M : Int)), .con (.bool false), .con (.int .u64 (M : Int)), .con (.int .u32 ((M % 4294967296 : Nat) : Int)), .con (.int .u64 (M : Int)), .con (.int .u64 ((M / 4294967296 : Nat) : Int)), .con (.int .u32 ((M / 4294967296 : Nat) : Int)), .opq (fun u r => Sl dL u r [((M % 4294967296 : Nat) : Int), ((M / 4294967296 : Nat) : Int)]), .opq (fun u r => Cv u r (intv false M)), .sto ⟨0, 0, .op 8⟩] [2] [0] [] ?_ (by decide) ?_ ?_ _ _
    · kernel_rfl
    · exact ⟨pu, pw (bf (p := (M : Int) < 0) (by omega)), pu, pw (wm32 (n := (M : Int)) (by omega)), pu, osr (yk := .u64) (d := 32) (by omega) (shr32 M), pw (wu32 (n := ((M / 4294967296 : Nat) : Int)) (by omega)), bsX (m := 2) (e := 93) dLk rfl (by decide) fun f u w hs => by exact ⟨[.int .u32 ((M % 4294967296 : Nat) : Int), .int .u32 ((M / 4294967296 : Nat) : Int)], ⟨[.int .u32 ((M % 4294967296 : Nat) : Int)], _, rfl, rfl, ⟨[.int .u32 ((M / 4294967296 : Nat) : Int)], _, rfl, rfl, rfl⟩⟩, by kernel_rfl⟩, ca (Cv.m _) fun f u w hs => (r02_made (Lv.of (b := 2) (hs.opq 7 _ rfl rfl) hT.1 hT.2.1 (Nat.le_refl 2)) (by omega)), st 0 0 2 ty31 (fun f u w hs => kn rfl (Cv.flat (hs.opq 8 _ rfl rfl))), trivial⟩
    rintro p8 x8 u8 hg8 ⟨q7, q8, -⟩
    have hG8 := hG7.trans hg8
    obtain ⟨s8_8, A8_8, n8_8, c8_8, e8_8, h8_8⟩ := q8; rw [fun_upd (i := 8) e8_8]
    refine next (g' := [(2, pt (p1 0) 0)]) (bx' := [⟨p1 0, 31, [.bool s8_8, .slice A8_8 n8_8 c8_8]⟩]) (rw' := []) (by kernel_rfl) (by kernel_rfl) (by kernel_rfl) ?_
    exact tri_ret (ret1 rfl (.agg #[.bool s8_8, .slice A8_8 n8_8 c8_8]) (rv_cell 0 (p1 0) 2 31 [.bool s8_8, .slice A8_8 n8_8 c8_8] rfl rfl ty31 rfl rfl rfl) hG8 (⟨_, _, _, _, rfl, by have := h8_8; simpa [intv] using this⟩))

set_option maxRecDepth 100000 in
theorem r02_Floor {u : World} {x y : Int} {k l : Nat} {v0 : Value} {v1 : Value} (h0 : Iv u v0 x k) (h1 : Iv u v1 y l) (hk : k ≤ 1099511627776) (hl : l ≤ 1099511627776) (h0y : y ≠ 0) : Fn Try.prog 112 #[v0, v1] u (Tup2 (fun u r => Cv u r (Int.fdiv x y)) (fun u r => Cv u r (Int.fmod x y))) := by
  obtain ⟨s0, A0, n0, c0, rfl, h0⟩ := h0
  obtain ⟨s1, A1, n1, c1, rfl, h1⟩ := h1
  have hx := h0.is; have hy := h1.is; have hl0 : lim x.natAbs ≤ k := h0.zl; have hl1 : lim y.natAbs ≤ l := h1.zl; have hR := rest_is hx hy
  refine fn_of (args := [_, _]) Try.func112 rfl (by show 2 ≤ 50; decide) ?_
  intro w0 hs0
  have hG0 := Gr.refl w0.heap.size u
  refine tri_seq ?_
  refine tri_reg mixed [.new 31 [.bool s0, .slice A0 n0 c0], .new 31 [.bool s1, .slice A1 n1 c1], .new 31 [.bool false, .slice none 0 0], .new 31 [.bool false, .slice none 0 0]] [2, 3, 4, 5] [0, 1, 2, 3] [] ?_ (by decide) ?_ ?_ _ _
  · kernel_rfl
  · exact ⟨al, al, al, al, trivial⟩
  rintro p1 x1 u1 hg1 -
  replace h0 := h0.sub hg1.1; replace h1 := h1.sub hg1.1
  have hG1 := hG0.trans hg1
  refine next (g' := [(2, pt (p1 0) 0), (3, pt (p1 1) 0), (4, pt (p1 2) 0), (5, pt (p1 3) 0)]) (bx' := [⟨p1 0, 31, [.bool s0, .slice A0 n0 c0]⟩, ⟨p1 1, 31, [.bool s1, .slice A1 n1 c1]⟩, ⟨p1 2, 31, [.bool false, .slice none 0 0]⟩, ⟨p1 3, 31, [.bool false, .slice none 0 0]⟩]) (rw' := []) (by kernel_rfl) (by kernel_rfl) (by kernel_rfl) ?_
  refine tri_seq ?_
  refine tri_reg mixed [.con (pt (p1 0) 1), .con (.slice A0 n0 c0), .con (pt (p1 1) 1), .con (.slice A1 n1 c1), .opq (Tup3 (fun u r => LCv u r ((x).natAbs / (y).natAbs)) (fun u r => LCv u r ((x).natAbs % (y).natAbs)) (Is (.int .i64 0))), .opq (Tup3 (fun u r => LCv u r ((x).natAbs / (y).natAbs)) (fun u r => LCv u r ((x).natAbs % (y).natAbs)) (Is (.int .i64 0))), .opq (fun u r => LCv u r ((x).natAbs / (y).natAbs)), .opq (fun u r => LCv u r ((x).natAbs % (y).natAbs)), .con (.int .i64 0), .cpy 6, .cpy 7, .con (.int .i64 0)] [2, 3, 4, 5, 6] [0, 1, 2, 3] [] ?_ (by decide) ?_ ?_ _ _
  · kernel_rfl
  · exact ⟨pu, ld 0 1 1 ty29, pu, ld 1 1 1 ty29, ca (Tup3.mono (LCv.m _) (LCv.m _) (Is.mono _)) fun f u w hs => (r01_Div ⟨_, _, _, rfl, (h0.sub hs.old).1, GI.rn (h0.sub hs.old)⟩ ⟨_, _, _, rfl, (h1.sub hs.old).1, GI.rn (h1.sub hs.old)⟩ (by omega) (by omega) (by omega)), mv 4 (Tup3.mono (LCv.m _) (LCv.m _) (Is.mono _)), ex3a 5 (LCv.m _), ex3b 5 (LCv.m _), ex3c 5, cp, cp, pu, trivial⟩
  rintro p2 x2 u2 hg2 ⟨q4, q5, q6, q7, -⟩
  replace h0 := h0.sub hg2.1; replace h1 := h1.sub hg2.1
  have hG2 := hG1.trans hg2
  obtain ⟨A2_6, n2_6, c2_6, e2_6, h2_6, l2_6, l2_6n, l2_6M⟩ := q6.open; rw [fun_upd (i := 6) e2_6]
  refine next (g' := [(2, pt (p1 0) 0), (3, pt (p1 1) 0), (4, pt (p1 2) 0), (5, pt (p1 3) 0), (6, .slice A2_6 n2_6 c2_6)]) (bx' := [⟨p1 0, 31, [.bool s0, .slice A0 n0 c0]⟩, ⟨p1 1, 31, [.bool s1, .slice A1 n1 c1]⟩, ⟨p1 2, 31, [.bool false, .slice none 0 0]⟩, ⟨p1 3, 31, [.bool false, .slice none 0 0]⟩]) (rw' := []) (by kernel_rfl) (by kernel_rfl) (by kernel_rfl) ?_
  refine tri_seq ?_
  refine tri_reg mixed [.con (pt (p1 0) 0), .con (.bool s0), .con (pt (p1 1) 0), .con (.bool s1), .con (.bool (s0 != s1)), .con (.slice A2_6 n2_6 c2_6), .opq (fun u r => Cv u r (intv (s0 != s1) ((x).natAbs / (y).natAbs))), .new 31 [.bool false, .slice none 0 0], .sto ⟨11, 0, .op 6⟩] [2, 3, 4, 5, 9] [0, 1, 2, 3, 11] [] ?_ (by decide) ?_ ?_ _ _
  · kernel_rfl
  · exact ⟨pu, ld 0 0 1 ty4, pu, ld 1 0 1 ty4, pu, pu, ca (Cv.m _) fun f u w hs => (r02_made (Lv.of (b := k) (h2_6.sub dLk hs.old) (dig_lim _) (dig_val _) (Nat.le_trans (lim_mono (Nat.div_le_self _ _)) h0.zl)) (by omega)), al, sn 7 2 ty31 (fun f u w hs => kn rfl (Cv.flat (hs.opq 6 _ rfl rfl))), trivial⟩
  rintro p3 x3 u3 hg3 ⟨q6, -⟩
  replace h0 := h0.sub hg3.1; replace h1 := h1.sub hg3.1; replace h2_6 := h2_6.sub dLk hg3.1
  have hG3 := hG2.trans hg3
  obtain ⟨s3_6, A3_6, n3_6, c3_6, e3_6, h3_6⟩ := q6; rw [fun_upd (i := 6) e3_6]
  refine next (g' := [(2, pt (p1 0) 0), (3, pt (p1 1) 0), (4, pt (p1 2) 0), (5, pt (p1 3) 0), (9, pt (p3 7) 0)]) (bx' := [⟨p1 0, 31, [.bool s0, .slice A0 n0 c0]⟩, ⟨p1 1, 31, [.bool s1, .slice A1 n1 c1]⟩, ⟨p1 2, 31, [.bool false, .slice none 0 0]⟩, ⟨p1 3, 31, [.bool false, .slice none 0 0]⟩, ⟨p3 7, 31, [.bool s3_6, .slice A3_6 n3_6 c3_6]⟩]) (rw' := []) (by kernel_rfl) (by kernel_rfl) (by kernel_rfl) ?_
  refine tri_seq ?_
  refine tri_reg mixed [.con (.agg #[.bool s0, .slice A0 n0 c0]), .con (.agg #[.bool s3_6, .slice A3_6 n3_6 c3_6]), .con (.agg #[.bool s1, .slice A1 n1 c1]), .opq (fun u r => Cv u r ((intv (s0 != s1) ((x).natAbs / (y).natAbs)) * y)), .opq (fun u r => Cv u r (x - ((intv (s0 != s1) ((x).natAbs / (y).natAbs)) * y))), .new 31 [.bool false, .slice none 0 0], .sto ⟨10, 0, .op 4⟩] [3, 4, 5, 9, 10] [1, 2, 3, 4, 10] [] ?_ (by decide) ?_ ?_ _ _
  · kernel_rfl
  · exact ⟨ld 0 0 2 ty31, ld 4 0 2 ty31, ld 1 0 2 ty31, ca (Cv.m _) fun f u w hs => (r02_Mul ⟨_, _, _, _, rfl, (h3_6.sub hs.old).gi (zl_intv (Nat.le_trans (lim_mono (Nat.div_le_self _ _)) h0.zl))⟩ ⟨_, _, _, _, rfl, h1.sub hs.old⟩ (by omega) (by omega)), ca (Cv.m _) fun f u w hs => (r02_Sub ⟨_, _, _, _, rfl, h0.sub hs.old⟩ ((hs.opq 3 _ rfl rfl).iv (zl_mul (zl_intv (Nat.le_trans (lim_mono (Nat.div_le_self _ _)) h0.zl)) h1.zl)) (by omega) (by omega)), al, sn 5 2 ty31 (fun f u w hs => kn rfl (Cv.flat (hs.opq 4 _ rfl rfl))), trivial⟩
  rintro p4 x4 u4 hg4 ⟨q3, q4, -⟩
  replace h0 := h0.sub hg4.1; replace h1 := h1.sub hg4.1; replace h3_6 := h3_6.sub hg4.1
  have hG4 := hG3.trans hg4
  obtain ⟨s4_4, A4_4, n4_4, c4_4, e4_4, h4_4⟩ := q4; rw [fun_upd (i := 4) e4_4]
  refine next (g' := [(3, pt (p1 1) 0), (4, pt (p1 2) 0), (5, pt (p1 3) 0), (9, pt (p3 7) 0), (10, pt (p4 5) 0)]) (bx' := [⟨p1 1, 31, [.bool s1, .slice A1 n1 c1]⟩, ⟨p1 2, 31, [.bool false, .slice none 0 0]⟩, ⟨p1 3, 31, [.bool false, .slice none 0 0]⟩, ⟨p3 7, 31, [.bool s3_6, .slice A3_6 n3_6 c3_6]⟩, ⟨p4 5, 31, [.bool s4_4, .slice A4_4 n4_4 c4_4]⟩]) (rw' := []) (by kernel_rfl) (by kernel_rfl) (by kernel_rfl) ?_
  refine tri_seq ?_
  refine tri_seq ?_
  rcases tri3 (x - intv (s0 != s1) (x.natAbs / y.natAbs) * y = 0) (sg (x - intv (s0 != s1) (x.natAbs / y.natAbs) * y) = sg y) with r1 | ⟨r1, r2⟩ | ⟨r1, r2⟩
  · have hF := floor_no2 hx hy h0y (fun h => h.1 (hR ▸ r1))
    rw [← hR] at hF
    refine tri_reg mixed [.con (.agg #[.bool s4_4, .slice A4_4 n4_4 c4_4]), .con (.int .i64 (sg (x - ((intv (s0 != s1) ((x).natAbs / (y).natAbs)) * y)))), .con (.bool false), .con (.bool false), .con undef, .con undef, .con undef, .con undef, .con undef, .con (.bool false)] [3, 4, 5, 9, 10, 41] [0, 1, 2, 3, 4] [] ?_ (by decide) ?_ ?_ _ _
    · kernel_rfl
    · exact ⟨ld 4 0 2 ty31, cc fun f u w hs => (r02_Sign ⟨_, _, _, _, rfl, (h4_4.sub hs.old).gi (zl_sub h0.zl (zl_mul (zl_intv (Nat.le_trans (lim_mono (Nat.div_le_self _ _)) h0.zl)) h1.zl))⟩ (by omega)), pw (bnf (a := (sg (x - ((intv (s0 != s1) ((x).natAbs / (y).natAbs)) * y)))) (b := 0) (by exact sg_iff.2 r1)), pu, trivial, trivial, trivial, trivial, trivial, pu, trivial⟩
    rintro p5 x5 u5 hg5 -
    replace h1 := h1.sub hg5.1; replace h3_6 := h3_6.sub hg5.1; replace h4_4 := h4_4.sub hg5.1
    have hG5 := hG4.trans hg5
    refine next (g' := [(3, pt (p1 1) 0), (4, pt (p1 2) 0), (5, pt (p1 3) 0), (9, pt (p3 7) 0), (10, pt (p4 5) 0), (41, .bool false)]) (bx' := [⟨p1 1, 31, [.bool s1, .slice A1 n1 c1]⟩, ⟨p1 2, 31, [.bool false, .slice none 0 0]⟩, ⟨p1 3, 31, [.bool false, .slice none 0 0]⟩, ⟨p3 7, 31, [.bool s3_6, .slice A3_6 n3_6 c3_6]⟩, ⟨p4 5, 31, [.bool s4_4, .slice A4_4 n4_4 c4_4]⟩]) (rw' := []) (by kernel_rfl) (by kernel_rfl) (by kernel_rfl) ?_
    refine tri_false rfl ?_
    refine tri_skip ?_
    refine next rfl rfl rfl ?_
    refine tri_seq ?_
    refine tri_reg mixed [.con (.agg #[.bool s3_6, .slice A3_6 n3_6 c3_6]), .con (.agg #[.bool s4_4, .slice A4_4 n4_4 c4_4]), .sto ⟨1, 0, .op 0⟩, .sto ⟨2, 0, .op 1⟩] [4, 5] [1, 2] [] ?_ (by decide) ?_ ?_ _ _
    · kernel_rfl
    · exact ⟨ld 3 0 2 ty31, ld 4 0 2 ty31, st 1 0 2 ty31 (fun f u w hs => kn rfl ⟨rfl, rfl⟩), st 2 0 2 ty31 (fun f u w hs => kn rfl ⟨rfl, rfl⟩), trivial⟩
    rintro p6 x6 u6 hg6 -
    replace h1 := h1.sub hg6.1; replace h3_6 := h3_6.sub hg6.1; replace h4_4 := h4_4.sub hg6.1
    have hG6 := hG5.trans hg6
    refine next (g' := [(4, pt (p1 2) 0), (5, pt (p1 3) 0)]) (bx' := [⟨p1 2, 31, [.bool s3_6, .slice A3_6 n3_6 c3_6]⟩, ⟨p1 3, 31, [.bool s4_4, .slice A4_4 n4_4 c4_4]⟩]) (rw' := []) (by kernel_rfl) (by kernel_rfl) (by kernel_rfl) ?_
    exact tri_ret (ret2 rfl (.agg #[.bool s3_6, .slice A3_6 n3_6 c3_6]) (.agg #[.bool s4_4, .slice A4_4 n4_4 c4_4]) (rv_cell 0 (p1 2) 2 31 [.bool s3_6, .slice A3_6 n3_6 c3_6] rfl rfl ty31 rfl rfl rfl) (rv_cell 1 (p1 3) 2 31 [.bool s4_4, .slice A4_4 n4_4 c4_4] rfl rfl ty31 rfl rfl rfl) hG6 (⟨_, _, rfl, ⟨_, _, _, _, rfl, by rw [hF.1]; exact h3_6⟩, ⟨_, _, _, _, rfl, by rw [hF.2]; exact h4_4⟩⟩))
  · have hF := floor_no2 hx hy h0y (fun h => h.2 (hR ▸ r2))
    rw [← hR] at hF
    refine tri_reg mixed [.con (.agg #[.bool s4_4, .slice A4_4 n4_4 c4_4]), .con (.int .i64 (sg (x - ((intv (s0 != s1) ((x).natAbs / (y).natAbs)) * y)))), .con (.bool true), .con (.bool true), .con (.agg #[.bool s4_4, .slice A4_4 n4_4 c4_4]), .con (.int .i64 (sg (x - ((intv (s0 != s1) ((x).natAbs / (y).natAbs)) * y)))), .con (.agg #[.bool s1, .slice A1 n1 c1]), .con (.int .i64 (sg y)), .con (.bool false), .con (.bool false)] [3, 4, 5, 9, 10, 41] [0, 1, 2, 3, 4] [] ?_ (by decide) ?_ ?_ _ _
    · kernel_rfl
    · exact ⟨ld 4 0 2 ty31, cc fun f u w hs => (r02_Sign ⟨_, _, _, _, rfl, (h4_4.sub hs.old).gi (zl_sub h0.zl (zl_mul (zl_intv (Nat.le_trans (lim_mono (Nat.div_le_self _ _)) h0.zl)) h1.zl))⟩ (by omega)), pw (bnt (a := (sg (x - ((intv (s0 != s1) ((x).natAbs / (y).natAbs)) * y)))) (b := 0) (by exact fun h => r1 (sg_iff.1 h))), pu, ld 4 0 2 ty31, cc fun f u w hs => (r02_Sign ⟨_, _, _, _, rfl, (h4_4.sub hs.old).gi (zl_sub h0.zl (zl_mul (zl_intv (Nat.le_trans (lim_mono (Nat.div_le_self _ _)) h0.zl)) h1.zl))⟩ (by omega)), ld 0 0 2 ty31, cc fun f u w hs => (r02_Sign ⟨_, _, _, _, rfl, h1.sub hs.old⟩ (by omega)), pw (bnf (a := (sg (x - ((intv (s0 != s1) ((x).natAbs / (y).natAbs)) * y)))) (b := (sg y)) (by exact r2)), pu, trivial⟩
    rintro p7 x7 u7 hg7 -
    replace h1 := h1.sub hg7.1; replace h3_6 := h3_6.sub hg7.1; replace h4_4 := h4_4.sub hg7.1
    have hG7 := hG4.trans hg7
    refine next (g' := [(3, pt (p1 1) 0), (4, pt (p1 2) 0), (5, pt (p1 3) 0), (9, pt (p3 7) 0), (10, pt (p4 5) 0), (41, .bool false)]) (bx' := [⟨p1 1, 31, [.bool s1, .slice A1 n1 c1]⟩, ⟨p1 2, 31, [.bool false, .slice none 0 0]⟩, ⟨p1 3, 31, [.bool false, .slice none 0 0]⟩, ⟨p3 7, 31, [.bool s3_6, .slice A3_6 n3_6 c3_6]⟩, ⟨p4 5, 31, [.bool s4_4, .slice A4_4 n4_4 c4_4]⟩]) (rw' := []) (by kernel_rfl) (by kernel_rfl) (by kernel_rfl) ?_
    refine tri_false rfl ?_
    refine tri_skip ?_
    refine next rfl rfl rfl ?_
    refine tri_seq ?_
    refine tri_reg mixed [.con (.agg #[.bool s3_6, .slice A3_6 n3_6 c3_6]), .con (.agg #[.bool s4_4, .slice A4_4 n4_4 c4_4]), .sto ⟨1, 0, .op 0⟩, .sto ⟨2, 0, .op 1⟩] [4, 5] [1, 2] [] ?_ (by decide) ?_ ?_ _ _
    · kernel_rfl
    · exact ⟨ld 3 0 2 ty31, ld 4 0 2 ty31, st 1 0 2 ty31 (fun f u w hs => kn rfl ⟨rfl, rfl⟩), st 2 0 2 ty31 (fun f u w hs => kn rfl ⟨rfl, rfl⟩), trivial⟩
    rintro p8 x8 u8 hg8 -
    replace h1 := h1.sub hg8.1; replace h3_6 := h3_6.sub hg8.1; replace h4_4 := h4_4.sub hg8.1
    have hG8 := hG7.trans hg8
    refine next (g' := [(4, pt (p1 2) 0), (5, pt (p1 3) 0)]) (bx' := [⟨p1 2, 31, [.bool s3_6, .slice A3_6 n3_6 c3_6]⟩, ⟨p1 3, 31, [.bool s4_4, .slice A4_4 n4_4 c4_4]⟩]) (rw' := []) (by kernel_rfl) (by kernel_rfl) (by kernel_rfl) ?_
    exact tri_ret (ret2 rfl (.agg #[.bool s3_6, .slice A3_6 n3_6 c3_6]) (.agg #[.bool s4_4, .slice A4_4 n4_4 c4_4]) (rv_cell 0 (p1 2) 2 31 [.bool s3_6, .slice A3_6 n3_6 c3_6] rfl rfl ty31 rfl rfl rfl) (rv_cell 1 (p1 3) 2 31 [.bool s4_4, .slice A4_4 n4_4 c4_4] rfl rfl ty31 rfl rfl rfl) hG8 (⟨_, _, rfl, ⟨_, _, _, _, rfl, by rw [hF.1]; exact h3_6⟩, ⟨_, _, _, _, rfl, by rw [hF.2]; exact h4_4⟩⟩))
  · have hF := floor_yes2 hx hy h0y ⟨hR ▸ r1, hR ▸ r2⟩
    rw [← hR] at hF
    refine tri_reg mixed [.con (.agg #[.bool s4_4, .slice A4_4 n4_4 c4_4]), .con (.int .i64 (sg (x - ((intv (s0 != s1) ((x).natAbs / (y).natAbs)) * y)))), .con (.bool true), .con (.bool true), .con (.agg #[.bool s4_4, .slice A4_4 n4_4 c4_4]), .con (.int .i64 (sg (x - ((intv (s0 != s1) ((x).natAbs / (y).natAbs)) * y)))), .con (.agg #[.bool s1, .slice A1 n1 c1]), .con (.int .i64 (sg y)), .con (.bool true), .con (.bool true)] [3, 4, 5, 9, 10, 41] [0, 1, 2, 3, 4] [] ?_ (by decide) ?_ ?_ _ _
    · kernel_rfl
    · exact ⟨ld 4 0 2 ty31, cc fun f u w hs => (r02_Sign ⟨_, _, _, _, rfl, (h4_4.sub hs.old).gi (zl_sub h0.zl (zl_mul (zl_intv (Nat.le_trans (lim_mono (Nat.div_le_self _ _)) h0.zl)) h1.zl))⟩ (by omega)), pw (bnt (a := (sg (x - ((intv (s0 != s1) ((x).natAbs / (y).natAbs)) * y)))) (b := 0) (by exact fun h => r1 (sg_iff.1 h))), pu, ld 4 0 2 ty31, cc fun f u w hs => (r02_Sign ⟨_, _, _, _, rfl, (h4_4.sub hs.old).gi (zl_sub h0.zl (zl_mul (zl_intv (Nat.le_trans (lim_mono (Nat.div_le_self _ _)) h0.zl)) h1.zl))⟩ (by omega)), ld 0 0 2 ty31, cc fun f u w hs => (r02_Sign ⟨_, _, _, _, rfl, h1.sub hs.old⟩ (by omega)), pw (bnt (a := (sg (x - ((intv (s0 != s1) ((x).natAbs / (y).natAbs)) * y)))) (b := (sg y)) (by exact r2)), pu, trivial⟩
    rintro p9 x9 u9 hg9 -
    replace h1 := h1.sub hg9.1; replace h3_6 := h3_6.sub hg9.1; replace h4_4 := h4_4.sub hg9.1
    have hG9 := hG4.trans hg9
    refine next (g' := [(3, pt (p1 1) 0), (4, pt (p1 2) 0), (5, pt (p1 3) 0), (9, pt (p3 7) 0), (10, pt (p4 5) 0), (41, .bool true)]) (bx' := [⟨p1 1, 31, [.bool s1, .slice A1 n1 c1]⟩, ⟨p1 2, 31, [.bool false, .slice none 0 0]⟩, ⟨p1 3, 31, [.bool false, .slice none 0 0]⟩, ⟨p3 7, 31, [.bool s3_6, .slice A3_6 n3_6 c3_6]⟩, ⟨p4 5, 31, [.bool s4_4, .slice A4_4 n4_4 c4_4]⟩]) (rw' := []) (by kernel_rfl) (by kernel_rfl) (by kernel_rfl) ?_
    refine tri_true rfl ?_
    refine tri_seq ?_
    refine tri_reg mixed [.con (.agg #[.bool s3_6, .slice A3_6 n3_6 c3_6]), .opq (fun u r => Cv u r 1), .opq (fun u r => Cv u r ((intv (s0 != s1) ((x).natAbs / (y).natAbs)) - 1)), .sto ⟨3, 0, .op 2⟩] [3, 4, 5, 9, 10] [0, 1, 2, 3, 4] [] ?_ (by decide) ?_ ?_ _ _
    · kernel_rfl
    · exact ⟨ld 3 0 2 ty31, ca (Cv.m _) fun f u w hs => (r02_Of (by omega) (by omega)), ca (Cv.m _) fun f u w hs => (r02_Sub ⟨_, _, _, _, rfl, (h3_6.sub hs.old).gi (zl_intv (Nat.le_trans (lim_mono (Nat.div_le_self _ _)) h0.zl))⟩ ((hs.opq 1 _ rfl rfl).iv (zl_of (by omega) (by omega))) (by omega) (by omega)), st 3 0 2 ty31 (fun f u w hs => kn rfl (Cv.flat (hs.opq 2 _ rfl rfl))), trivial⟩
    rintro p10 x10 u10 hg10 ⟨q1, q2, -⟩
    replace h1 := h1.sub hg10.1; replace h3_6 := h3_6.sub hg10.1; replace h4_4 := h4_4.sub hg10.1
    have hG10 := hG9.trans hg10
    obtain ⟨s10_2, A10_2, n10_2, c10_2, e10_2, h10_2⟩ := q2; rw [fun_upd (i := 2) e10_2]
    refine next (g' := [(3, pt (p1 1) 0), (4, pt (p1 2) 0), (5, pt (p1 3) 0), (9, pt (p3 7) 0), (10, pt (p4 5) 0)]) (bx' := [⟨p1 1, 31, [.bool s1, .slice A1 n1 c1]⟩, ⟨p1 2, 31, [.bool false, .slice none 0 0]⟩, ⟨p1 3, 31, [.bool false, .slice none 0 0]⟩, ⟨p3 7, 31, [.bool s10_2, .slice A10_2 n10_2 c10_2]⟩, ⟨p4 5, 31, [.bool s4_4, .slice A4_4 n4_4 c4_4]⟩]) (rw' := []) (by kernel_rfl) (by kernel_rfl) (by kernel_rfl) ?_
    refine tri_reg mixed [.con (.agg #[.bool s4_4, .slice A4_4 n4_4 c4_4]), .con (.agg #[.bool s1, .slice A1 n1 c1]), .opq (fun u r => Cv u r ((x - ((intv (s0 != s1) ((x).natAbs / (y).natAbs)) * y)) + y)), .sto ⟨4, 0, .op 2⟩] [4, 5, 9, 10] [1, 2, 3, 4] [] ?_ (by decide) ?_ ?_ _ _
    · kernel_rfl
    · exact ⟨ld 4 0 2 ty31, ld 0 0 2 ty31, ca (Cv.m _) fun f u w hs => (r02_Add ⟨_, _, _, _, rfl, (h4_4.sub hs.old).gi (zl_sub h0.zl (zl_mul (zl_intv (Nat.le_trans (lim_mono (Nat.div_le_self _ _)) h0.zl)) h1.zl))⟩ ⟨_, _, _, _, rfl, h1.sub hs.old⟩ (by omega) (by omega)), st 4 0 2 ty31 (fun f u w hs => kn rfl (Cv.flat (hs.opq 2 _ rfl rfl))), trivial⟩
    rintro p11 x11 u11 hg11 ⟨q2, -⟩
    replace h1 := h1.sub hg11.1; replace h10_2 := h10_2.sub hg11.1; replace h4_4 := h4_4.sub hg11.1
    have hG11 := hG10.trans hg11
    obtain ⟨s11_2, A11_2, n11_2, c11_2, e11_2, h11_2⟩ := q2; rw [fun_upd (i := 2) e11_2]
    refine next (g' := [(4, pt (p1 2) 0), (5, pt (p1 3) 0), (9, pt (p3 7) 0), (10, pt (p4 5) 0)]) (bx' := [⟨p1 2, 31, [.bool false, .slice none 0 0]⟩, ⟨p1 3, 31, [.bool false, .slice none 0 0]⟩, ⟨p3 7, 31, [.bool s10_2, .slice A10_2 n10_2 c10_2]⟩, ⟨p4 5, 31, [.bool s11_2, .slice A11_2 n11_2 c11_2]⟩]) (rw' := []) (by kernel_rfl) (by kernel_rfl) (by kernel_rfl) ?_
    refine tri_seq ?_
    refine tri_reg mixed [.con (.agg #[.bool s10_2, .slice A10_2 n10_2 c10_2]), .con (.agg #[.bool s11_2, .slice A11_2 n11_2 c11_2]), .sto ⟨0, 0, .op 0⟩, .sto ⟨1, 0, .op 1⟩] [4, 5] [0, 1] [] ?_ (by decide) ?_ ?_ _ _
    · kernel_rfl
    · exact ⟨ld 2 0 2 ty31, ld 3 0 2 ty31, st 0 0 2 ty31 (fun f u w hs => kn rfl ⟨rfl, rfl⟩), st 1 0 2 ty31 (fun f u w hs => kn rfl ⟨rfl, rfl⟩), trivial⟩
    rintro p12 x12 u12 hg12 -
    replace h10_2 := h10_2.sub hg12.1; replace h11_2 := h11_2.sub hg12.1
    have hG12 := hG11.trans hg12
    refine next (g' := [(4, pt (p1 2) 0), (5, pt (p1 3) 0)]) (bx' := [⟨p1 2, 31, [.bool s10_2, .slice A10_2 n10_2 c10_2]⟩, ⟨p1 3, 31, [.bool s11_2, .slice A11_2 n11_2 c11_2]⟩]) (rw' := []) (by kernel_rfl) (by kernel_rfl) (by kernel_rfl) ?_
    exact tri_ret (ret2 rfl (.agg #[.bool s10_2, .slice A10_2 n10_2 c10_2]) (.agg #[.bool s11_2, .slice A11_2 n11_2 c11_2]) (rv_cell 0 (p1 2) 2 31 [.bool s10_2, .slice A10_2 n10_2 c10_2] rfl rfl ty31 rfl rfl rfl) (rv_cell 1 (p1 3) 2 31 [.bool s11_2, .slice A11_2 n11_2 c11_2] rfl rfl ty31 rfl rfl rfl) hG12 (⟨_, _, rfl, ⟨_, _, _, _, rfl, by rw [hF.1]; exact h10_2⟩, ⟨_, _, _, _, rfl, by rw [hF.2]; exact h11_2⟩⟩))

set_option maxRecDepth 100000 in
theorem r03_one {u : World}     : Fn Try.prog 111 #[] u (fun u r => Cv u r 1) := by
  refine fn_of (args := []) Try.func111 rfl (by show 0 ≤ 2; decide) ?_
  intro w0 hs0
  have hG0 := Gr.refl w0.heap.size u
  refine tri_seq ?_
  refine tri_reg mixed [.new 31 [.bool false, .slice none 0 0]] [0] [0] [] ?_ (by decide) ?_ ?_ _ _
  · kernel_rfl
  · exact ⟨al, trivial⟩
  rintro p1 x1 u1 hg1 -
  have hG1 := hG0.trans hg1
  refine next (g' := [(0, pt (p1 0) 0)]) (bx' := [⟨p1 0, 31, [.bool false, .slice none 0 0]⟩]) (rw' := []) (by kernel_rfl) (by kernel_rfl) (by kernel_rfl) ?_
  refine tri_seq ?_
  refine tri_reg mixed [.opq (fun u r => Cv u r 1), .sto ⟨0, 0, .op 0⟩] [0] [0] [] ?_ (by decide) ?_ ?_ _ _
  · kernel_rfl
  · exact ⟨ca (Cv.m _) fun f u w hs => (r02_Of (by omega) (by omega)), st 0 0 2 ty31 (fun f u w hs => kn rfl (Cv.flat (hs.opq 0 _ rfl rfl))), trivial⟩
  rintro p2 x2 u2 hg2 ⟨q0, -⟩
  have hG2 := hG1.trans hg2
  obtain ⟨s2_0, A2_0, n2_0, c2_0, e2_0, h2_0⟩ := q0; rw [fun_upd (i := 0) e2_0]
  refine next (g' := [(0, pt (p1 0) 0)]) (bx' := [⟨p1 0, 31, [.bool s2_0, .slice A2_0 n2_0 c2_0]⟩]) (rw' := []) (by kernel_rfl) (by kernel_rfl) (by kernel_rfl) ?_
  exact tri_ret (ret1 rfl (.agg #[.bool s2_0, .slice A2_0 n2_0 c2_0]) (rv_cell 0 (p1 0) 2 31 [.bool s2_0, .slice A2_0 n2_0 c2_0] rfl rfl ty31 rfl rfl rfl) hG2 (⟨_, _, _, _, rfl, h2_0⟩))

set_option maxRecDepth 100000 in
theorem r03_Of {u : World} {x : Int} {k : Nat} {v0 : Value} (h0 : Iv u v0 x k) (hk : k ≤ 1099511627776) : Fn Try.prog 67 #[v0] u (fun u r => CQv u r (x : Rat)) := by
  obtain ⟨s0, A0, n0, c0, rfl, h0⟩ := h0
  refine fn_of (args := [_]) Try.func67 rfl (by show 1 ≤ 7; decide) ?_
  intro w0 hs0
  have hG0 := Gr.refl w0.heap.size u
  refine tri_seq ?_
  refine tri_reg mixed [.new 31 [.bool s0, .slice A0 n0 c0], .new 33 [.bool false, .slice none 0 0, .bool false, .slice none 0 0]] [1, 2] [0, 1] [] ?_ (by decide) ?_ ?_ _ _
  · kernel_rfl
  · exact ⟨al, al, trivial⟩
  rintro p1 x1 u1 hg1 -
  replace h0 := h0.sub hg1.1
  have hG1 := hG0.trans hg1
  refine next (g' := [(1, pt (p1 0) 0), (2, pt (p1 1) 0)]) (bx' := [⟨p1 0, 31, [.bool s0, .slice A0 n0 c0]⟩, ⟨p1 1, 33, [.bool false, .slice none 0 0, .bool false, .slice none 0 0]⟩]) (rw' := []) (by kernel_rfl) (by kernel_rfl) (by kernel_rfl) ?_
  refine tri_seq ?_
  refine tri_reg mixed [.con (.agg #[.bool s0, .slice A0 n0 c0]), .opq (fun u r => Cv u r x), .opq (fun u r => Cv u r 1), .opq (fun u r => Pv u r x 1), .sto ⟨1, 0, .op 3⟩] [2] [1] [] ?_ (by decide) ?_ ?_ _ _
  · kernel_rfl
  · exact ⟨ld 0 0 2 ty31, ca (Cv.m _) fun f u w hs => (r02_Norm ⟨_, _, _, _, rfl, h0.sub hs.old⟩ (by omega)), ca (Cv.m _) fun f u w hs => r03_one, bqX (Pv.m _ _) fun f u w hs => by obtain ⟨s__0, A__0, n__0, c__0, e__0, h__0⟩ := hs.opq 1 _ rfl rfl; obtain ⟨s__1, A__1, n__1, c__1, e__1, h__1⟩ := hs.opq 2 _ rfl rfl; exact ⟨.agg #[.bool s__0, .slice A__0 n__0 c__0, .bool s__1, .slice A__1 n__1 c__1], ⟨_, _, _, _, _, _, _, _, rfl, h__0, h__1⟩, by rw [fun_upd e__0, fun_upd e__1]; kernel_rfl⟩, st 1 0 4 ty33 (fun f u w hs => kn rfl (Pv.flat (hs.opq 3 _ rfl rfl))), trivial⟩
  rintro p2 x2 u2 hg2 ⟨q1, q2, q3, -⟩
  replace h0 := h0.sub hg2.1
  have hG2 := hG1.trans hg2
  obtain ⟨s2_3, A2_3, n2_3, c2_3, t2_3, D2_3, m2_3, d2_3, e2_3, h2_3, k2_3⟩ := q3; rw [fun_upd (i := 3) e2_3]
  refine next (g' := [(2, pt (p1 1) 0)]) (bx' := [⟨p1 1, 33, [.bool s2_3, .slice A2_3 n2_3 c2_3, .bool t2_3, .slice D2_3 m2_3 d2_3]⟩]) (rw' := []) (by kernel_rfl) (by kernel_rfl) (by kernel_rfl) ?_
  exact tri_ret (ret1 rfl (.agg #[.bool s2_3, .slice A2_3 n2_3 c2_3, .bool t2_3, .slice D2_3 m2_3 d2_3]) (rv_cell 0 (p1 1) 4 33 [.bool s2_3, .slice A2_3 n2_3 c2_3, .bool t2_3, .slice D2_3 m2_3 d2_3] rfl rfl ty33 rfl rfl rfl) hG2 (⟨_, _, _, _, _, _, _, _, rfl, by rw [(rat_whole x).1]; exact h2_3, by rw [(rat_whole x).2]; exact k2_3⟩))

set_option maxRecDepth 100000 in
theorem r03_Make {u : World} {x y : Int} {k l : Nat} {v0 : Value} {v1 : Value} (h0 : Iv u v0 x k) (h1 : Iv u v1 y l) (hk : k ≤ 1099511627776) (hl : l ≤ 1099511627776) (h0y : y ≠ 0) : Fn Try.prog 88 #[v0, v1] u (fun u r => CQv u r ((x : Rat) / y)) := by
  obtain ⟨s0, A0, n0, c0, rfl, h0⟩ := h0
  obtain ⟨s1, A1, n1, c1, rfl, h1⟩ := h1
  refine fn_of (args := [_, _]) Try.func88 rfl (by show 2 ≤ 54; decide) ?_
  intro w0 hs0
  have hG0 := Gr.refl w0.heap.size u
  refine tri_seq ?_
  refine tri_reg mixed [.new 31 [.bool s0, .slice A0 n0 c0], .new 31 [.bool s1, .slice A1 n1 c1], .new 33 [.bool false, .slice none 0 0, .bool false, .slice none 0 0]] [2, 3, 4] [0, 1, 2] [] ?_ (by decide) ?_ ?_ _ _
  · kernel_rfl
  · exact ⟨al, al, al, trivial⟩
  rintro p1 x1 u1 hg1 -
  replace h0 := h0.sub hg1.1; replace h1 := h1.sub hg1.1
  have hG1 := hG0.trans hg1
  refine next (g' := [(2, pt (p1 0) 0), (3, pt (p1 1) 0), (4, pt (p1 2) 0)]) (bx' := [⟨p1 0, 31, [.bool s0, .slice A0 n0 c0]⟩, ⟨p1 1, 31, [.bool s1, .slice A1 n1 c1]⟩, ⟨p1 2, 33, [.bool false, .slice none 0 0, .bool false, .slice none 0 0]⟩]) (rw' := []) (by kernel_rfl) (by kernel_rfl) (by kernel_rfl) ?_
  refine tri_seq ?_
  refine tri_reg mixed [.con (.agg #[.bool s0, .slice A0 n0 c0]), .opq (fun u r => Cv u r x), .new 31 [.bool false, .slice none 0 0], .sto ⟨5, 0, .op 1⟩] [3, 4, 5] [1, 2, 5] [] ?_ (by decide) ?_ ?_ _ _
  · kernel_rfl
  · exact ⟨ld 0 0 2 ty31, ca (Cv.m _) fun f u w hs => (r02_Norm ⟨_, _, _, _, rfl, h0.sub hs.old⟩ (by omega)), al, sn 2 2 ty31 (fun f u w hs => kn rfl (Cv.flat (hs.opq 1 _ rfl rfl))), trivial⟩
  rintro p2 x2 u2 hg2 ⟨q1, -⟩
  replace h0 := h0.sub hg2.1; replace h1 := h1.sub hg2.1
  have hG2 := hG1.trans hg2
  obtain ⟨s2_1, A2_1, n2_1, c2_1, e2_1, h2_1⟩ := q1; rw [fun_upd (i := 1) e2_1]
  refine next (g' := [(3, pt (p1 1) 0), (4, pt (p1 2) 0), (5, pt (p2 2) 0)]) (bx' := [⟨p1 1, 31, [.bool s1, .slice A1 n1 c1]⟩, ⟨p1 2, 33, [.bool false, .slice none 0 0, .bool false, .slice none 0 0]⟩, ⟨p2 2, 31, [.bool s2_1, .slice A2_1 n2_1 c2_1]⟩]) (rw' := []) (by kernel_rfl) (by kernel_rfl) (by kernel_rfl) ?_
  refine tri_seq ?_
  refine tri_reg mixed [.con (.agg #[.bool s1, .slice A1 n1 c1]), .opq (fun u r => Cv u r y), .new 31 [.bool false, .slice none 0 0], .sto ⟨5, 0, .op 1⟩] [4, 5, 6] [1, 2, 5] [] ?_ (by decide) ?_ ?_ _ _
  · kernel_rfl
  · exact ⟨ld 0 0 2 ty31, ca (Cv.m _) fun f u w hs => (r02_Norm ⟨_, _, _, _, rfl, h1.sub hs.old⟩ (by omega)), al, sn 2 2 ty31 (fun f u w hs => kn rfl (Cv.flat (hs.opq 1 _ rfl rfl))), trivial⟩
  rintro p3 x3 u3 hg3 ⟨q1, -⟩
  replace h1 := h1.sub hg3.1; replace h2_1 := h2_1.sub hg3.1
  have hG3 := hG2.trans hg3
  obtain ⟨s3_1, A3_1, n3_1, c3_1, e3_1, h3_1⟩ := q1; rw [fun_upd (i := 1) e3_1]
  refine next (g' := [(4, pt (p1 2) 0), (5, pt (p2 2) 0), (6, pt (p3 2) 0)]) (bx' := [⟨p1 2, 33, [.bool false, .slice none 0 0, .bool false, .slice none 0 0]⟩, ⟨p2 2, 31, [.bool s2_1, .slice A2_1 n2_1 c2_1]⟩, ⟨p3 2, 31, [.bool s3_1, .slice A3_1 n3_1 c3_1]⟩]) (rw' := []) (by kernel_rfl) (by kernel_rfl) (by kernel_rfl) ?_
  refine tri_seq ?_
  refine tri_seq ?_
  rcases Classical.em (y < 0) with hy0 | hy0
  · have hq := rat_made (x := (-x)) (y := (-y)) (by omega)
    rw [rat_neg] at hq
    have hgp : 0 < Nat.gcd (-x).natAbs (-y).natAbs := Nat.gcd_pos_of_pos_right _ (by omega); have hyn : (-y) = (((-y).natAbs : Nat) : Int) := by omega
    refine tri_reg mixed [.con (.agg #[.bool s3_1, .slice A3_1 n3_1 c3_1]), .con (.int .i64 (sg y)), .con (.bool true)] [4, 5, 6, 20] [0, 1, 2] [] ?_ (by decide) ?_ ?_ _ _
    · kernel_rfl
    · exact ⟨ld 2 0 2 ty31, cc fun f u w hs => (r02_Sign ⟨_, _, _, _, rfl, (h3_1.sub hs.old).gi (id h1.zl)⟩ (by omega)), pw (bt (p := (sg y) < 0) (by exact sgneg.2 hy0)), trivial⟩
    rintro p4 x4 u4 hg4 -
    replace h2_1 := h2_1.sub hg4.1; replace h3_1 := h3_1.sub hg4.1
    have hG4 := hG3.trans hg4
    refine next (g' := [(4, pt (p1 2) 0), (5, pt (p2 2) 0), (6, pt (p3 2) 0), (20, .bool true)]) (bx' := [⟨p1 2, 33, [.bool false, .slice none 0 0, .bool false, .slice none 0 0]⟩, ⟨p2 2, 31, [.bool s2_1, .slice A2_1 n2_1 c2_1]⟩, ⟨p3 2, 31, [.bool s3_1, .slice A3_1 n3_1 c3_1]⟩]) (rw' := []) (by kernel_rfl) (by kernel_rfl) (by kernel_rfl) ?_
    refine tri_true rfl ?_
    refine tri_seq ?_
    refine tri_reg mixed [.con (.agg #[.bool s2_1, .slice A2_1 n2_1 c2_1]), .opq (fun u r => Cv u r (-x)), .sto ⟨1, 0, .op 1⟩] [4, 5, 6] [0, 1, 2] [] ?_ (by decide) ?_ ?_ _ _
    · kernel_rfl
    · exact ⟨ld 1 0 2 ty31, ca (Cv.m _) fun f u w hs => (r02_Neg ⟨_, _, _, _, rfl, (h2_1.sub hs.old).gi (id h0.zl)⟩ (by omega)), st 1 0 2 ty31 (fun f u w hs => kn rfl (Cv.flat (hs.opq 1 _ rfl rfl))), trivial⟩
    rintro p5 x5 u5 hg5 ⟨q1, -⟩
    replace h2_1 := h2_1.sub hg5.1; replace h3_1 := h3_1.sub hg5.1
    have hG5 := hG4.trans hg5
    obtain ⟨s5_1, A5_1, n5_1, c5_1, e5_1, h5_1⟩ := q1; rw [fun_upd (i := 1) e5_1]
    refine next (g' := [(4, pt (p1 2) 0), (5, pt (p2 2) 0), (6, pt (p3 2) 0)]) (bx' := [⟨p1 2, 33, [.bool false, .slice none 0 0, .bool false, .slice none 0 0]⟩, ⟨p2 2, 31, [.bool s5_1, .slice A5_1 n5_1 c5_1]⟩, ⟨p3 2, 31, [.bool s3_1, .slice A3_1 n3_1 c3_1]⟩]) (rw' := []) (by kernel_rfl) (by kernel_rfl) (by kernel_rfl) ?_
    refine tri_reg mixed [.con (.agg #[.bool s3_1, .slice A3_1 n3_1 c3_1]), .opq (fun u r => Cv u r (-y)), .sto ⟨2, 0, .op 1⟩] [4, 5, 6] [0, 1, 2] [] ?_ (by decide) ?_ ?_ _ _
    · kernel_rfl
    · exact ⟨ld 2 0 2 ty31, ca (Cv.m _) fun f u w hs => (r02_Neg ⟨_, _, _, _, rfl, (h3_1.sub hs.old).gi (id h1.zl)⟩ (by omega)), st 2 0 2 ty31 (fun f u w hs => kn rfl (Cv.flat (hs.opq 1 _ rfl rfl))), trivial⟩
    rintro p6 x6 u6 hg6 ⟨q1, -⟩
    replace h3_1 := h3_1.sub hg6.1; replace h5_1 := h5_1.sub hg6.1
    have hG6 := hG5.trans hg6
    obtain ⟨s6_1, A6_1, n6_1, c6_1, e6_1, h6_1⟩ := q1; rw [fun_upd (i := 1) e6_1]
    refine next (g' := [(4, pt (p1 2) 0), (5, pt (p2 2) 0), (6, pt (p3 2) 0)]) (bx' := [⟨p1 2, 33, [.bool false, .slice none 0 0, .bool false, .slice none 0 0]⟩, ⟨p2 2, 31, [.bool s5_1, .slice A5_1 n5_1 c5_1]⟩, ⟨p3 2, 31, [.bool s6_1, .slice A6_1 n6_1 c6_1]⟩]) (rw' := []) (by kernel_rfl) (by kernel_rfl) (by kernel_rfl) ?_
    refine tri_seq ?_
    refine tri_reg mixed [.con (pt (p2 2) 1), .con (.slice A5_1 n5_1 c5_1), .con (pt (p3 2) 1), .con (.slice A6_1 n6_1 c6_1), .opq (fun u r => LCv u r (Nat.gcd (-x).natAbs (-y).natAbs)), .cpy 4] [4, 5, 6, 7] [0, 1, 2] [] ?_ (by decide) ?_ ?_ _ _
    · kernel_rfl
    · exact ⟨pu, ld 1 1 1 ty29, pu, ld 2 1 1 ty29, ca (LCv.m _) fun f u w hs => (r01_Gcd ⟨_, _, _, rfl, ((h5_1.sub hs.old).gi (zl_neg (id h0.zl))).1, (h5_1.sub hs.old).2.rn⟩ ⟨_, _, _, rfl, ((h6_1.sub hs.old).gi (zl_neg (id h1.zl))).1, (h6_1.sub hs.old).2.rn⟩ (by omega) (by omega)), cp, trivial⟩
    rintro p7 x7 u7 hg7 ⟨q4, -⟩
    replace h5_1 := h5_1.sub hg7.1; replace h6_1 := h6_1.sub hg7.1
    have hG7 := hG6.trans hg7
    obtain ⟨A7_4, n7_4, c7_4, e7_4, h7_4, l7_4, l7_4n, l7_4M⟩ := q4.open; rw [fun_upd (i := 4) e7_4]
    refine next (g' := [(4, pt (p1 2) 0), (5, pt (p2 2) 0), (6, pt (p3 2) 0), (7, .slice A7_4 n7_4 c7_4)]) (bx' := [⟨p1 2, 33, [.bool false, .slice none 0 0, .bool false, .slice none 0 0]⟩, ⟨p2 2, 31, [.bool s5_1, .slice A5_1 n5_1 c5_1]⟩, ⟨p3 2, 31, [.bool s6_1, .slice A6_1 n6_1 c6_1]⟩]) (rw' := []) (by kernel_rfl) (by kernel_rfl) (by kernel_rfl) ?_
    refine tri_seq ?_
    refine tri_reg mixed [.con (pt (p2 2) 1), .con (.slice A5_1 n5_1 c5_1), .con (.slice A7_4 n7_4 c7_4), .opq (Tup3 (fun u r => LCv u r ((-x).natAbs / (Nat.gcd (-x).natAbs (-y).natAbs))) (fun u r => LCv u r ((-x).natAbs % (Nat.gcd (-x).natAbs (-y).natAbs))) (Is (.int .i64 0))), .opq (Tup3 (fun u r => LCv u r ((-x).natAbs / (Nat.gcd (-x).natAbs (-y).natAbs))) (fun u r => LCv u r ((-x).natAbs % (Nat.gcd (-x).natAbs (-y).natAbs))) (Is (.int .i64 0))), .opq (fun u r => LCv u r ((-x).natAbs / (Nat.gcd (-x).natAbs (-y).natAbs))), .opq (fun u r => LCv u r ((-x).natAbs % (Nat.gcd (-x).natAbs (-y).natAbs))), .con (.int .i64 0), .cpy 5, .cpy 6, .con (.int .i64 0)] [4, 5, 6, 7, 8] [0, 1, 2] [] ?_ (by decide) ?_ ?_ _ _
    · kernel_rfl
    · exact ⟨pu, ld 1 1 1 ty29, pu, ca (Tup3.mono (LCv.m _) (LCv.m _) (Is.mono _)) fun f u w hs => (r01_Div ⟨_, _, _, rfl, ((h5_1.sub hs.old).gi (zl_neg (id h0.zl))).1, (h5_1.sub hs.old).2.rn⟩ (Lv.of (b := (max k l)) (h7_4.sub dLk hs.old) (dig_lim _) (dig_val _) (lim_gcd (zl_neg (id h0.zl)) (zl_neg (id h1.zl)))) (by omega) (by omega) (by exact hgp)), mv 3 (Tup3.mono (LCv.m _) (LCv.m _) (Is.mono _)), ex3a 4 (LCv.m _), ex3b 4 (LCv.m _), ex3c 4, cp, cp, pu, trivial⟩
    rintro p8 x8 u8 hg8 ⟨q3, q4, q5, q6, -⟩
    replace h5_1 := h5_1.sub hg8.1; replace h6_1 := h6_1.sub hg8.1; replace h7_4 := h7_4.sub dLk hg8.1
    have hG8 := hG7.trans hg8
    obtain ⟨A8_5, n8_5, c8_5, e8_5, h8_5, l8_5, l8_5n, l8_5M⟩ := q5.open; rw [fun_upd (i := 5) e8_5]
    refine next (g' := [(4, pt (p1 2) 0), (5, pt (p2 2) 0), (6, pt (p3 2) 0), (7, .slice A7_4 n7_4 c7_4), (8, .slice A8_5 n8_5 c8_5)]) (bx' := [⟨p1 2, 33, [.bool false, .slice none 0 0, .bool false, .slice none 0 0]⟩, ⟨p2 2, 31, [.bool s5_1, .slice A5_1 n5_1 c5_1]⟩, ⟨p3 2, 31, [.bool s6_1, .slice A6_1 n6_1 c6_1]⟩]) (rw' := []) (by kernel_rfl) (by kernel_rfl) (by kernel_rfl) ?_
    refine tri_seq ?_
    refine tri_reg mixed [.con (pt (p3 2) 1), .con (.slice A6_1 n6_1 c6_1), .con (.slice A7_4 n7_4 c7_4), .opq (Tup3 (fun u r => LCv u r ((-y).natAbs / (Nat.gcd (-x).natAbs (-y).natAbs))) (fun u r => LCv u r ((-y).natAbs % (Nat.gcd (-x).natAbs (-y).natAbs))) (Is (.int .i64 0))), .opq (Tup3 (fun u r => LCv u r ((-y).natAbs / (Nat.gcd (-x).natAbs (-y).natAbs))) (fun u r => LCv u r ((-y).natAbs % (Nat.gcd (-x).natAbs (-y).natAbs))) (Is (.int .i64 0))), .opq (fun u r => LCv u r ((-y).natAbs / (Nat.gcd (-x).natAbs (-y).natAbs))), .opq (fun u r => LCv u r ((-y).natAbs % (Nat.gcd (-x).natAbs (-y).natAbs))), .con (.int .i64 0), .cpy 5, .cpy 6, .con (.int .i64 0)] [4, 5, 8, 11] [0, 1] [] ?_ (by decide) ?_ ?_ _ _
    · kernel_rfl
    · exact ⟨pu, ld 2 1 1 ty29, pu, ca (Tup3.mono (LCv.m _) (LCv.m _) (Is.mono _)) fun f u w hs => (r01_Div ⟨_, _, _, rfl, ((h6_1.sub hs.old).gi (zl_neg (id h1.zl))).1, (h6_1.sub hs.old).2.rn⟩ (Lv.of (b := (max k l)) (h7_4.sub dLk hs.old) (dig_lim _) (dig_val _) (lim_gcd (zl_neg (id h0.zl)) (zl_neg (id h1.zl)))) (by omega) (by omega) (by exact hgp)), mv 3 (Tup3.mono (LCv.m _) (LCv.m _) (Is.mono _)), ex3a 4 (LCv.m _), ex3b 4 (LCv.m _), ex3c 4, cp, cp, pu, trivial⟩
    rintro p9 x9 u9 hg9 ⟨q3, q4, q5, q6, -⟩
    replace h5_1 := h5_1.sub hg9.1; replace h6_1 := h6_1.sub hg9.1; replace h7_4 := h7_4.sub dLk hg9.1; replace h8_5 := h8_5.sub dLk hg9.1
    have hG9 := hG8.trans hg9
    obtain ⟨A9_5, n9_5, c9_5, e9_5, h9_5, l9_5, l9_5n, l9_5M⟩ := q5.open; rw [fun_upd (i := 5) e9_5]
    refine next (g' := [(4, pt (p1 2) 0), (5, pt (p2 2) 0), (8, .slice A8_5 n8_5 c8_5), (11, .slice A9_5 n9_5 c9_5)]) (bx' := [⟨p1 2, 33, [.bool false, .slice none 0 0, .bool false, .slice none 0 0]⟩, ⟨p2 2, 31, [.bool s5_1, .slice A5_1 n5_1 c5_1]⟩]) (rw' := []) (by kernel_rfl) (by kernel_rfl) (by kernel_rfl) ?_
    refine tri_seq ?_
    have hs5 := h5_1.1; have hX := div_is hs5 (Nat.gcd_dvd_left (-x).natAbs (-y).natAbs); have hY : (((-y).natAbs / Nat.gcd (-x).natAbs (-y).natAbs : Nat) : Int) = (-y) / ((Int.gcd (-x) (-y) : Nat) : Int) := by rw [Int.natCast_ediv, ← hyn]; rfl
    refine tri_reg mixed [.con (pt (p2 2) 0), .con (.bool s5_1), .con (.slice A8_5 n8_5 c8_5), .con (.agg #[.bool s5_1, .slice A8_5 n8_5 c8_5]), .opq (fun u r => Cv u r (intv s5_1 ((-x).natAbs / (Nat.gcd (-x).natAbs (-y).natAbs)))), .con (.slice A9_5 n9_5 c9_5), .con (.agg #[.bool false, .slice A9_5 n9_5 c9_5]), .opq (fun u r => Pv u r (intv s5_1 ((-x).natAbs / (Nat.gcd (-x).natAbs (-y).natAbs))) ((((-y).natAbs / (Nat.gcd (-x).natAbs (-y).natAbs)) : Nat) : Int)), .sto ⟨0, 0, .op 7⟩] [4] [0] [] ?_ (by decide) ?_ ?_ _ _
    · kernel_rfl
    · exact ⟨pu, ld 1 0 1 ty4, pu, pu, ca (Cv.m _) fun f u w hs => (r02_Norm (iv_of (s := s5_1) (Lv.of (b := k) (h8_5.sub dLk hs.old) (dig_lim _) (dig_val _) (Nat.le_trans (lim_mono (Nat.div_le_self _ _)) (zl_neg (id h0.zl))))) (by omega)), pu, pu, bqX (Pv.m _ _) fun f u w hs => by obtain ⟨s__0, A__0, n__0, c__0, e__0, h__0⟩ := hs.opq 4 _ rfl rfl; exact ⟨.agg #[.bool s__0, .slice A__0 n__0 c__0, .bool false, .slice A9_5 n9_5 c9_5], ⟨_, _, _, _, _, _, _, _, rfl, h__0, (ci_nat (LCv.of (h9_5.sub dLk hs.old)))⟩, by rw [fun_upd e__0]; kernel_rfl⟩, st 0 0 4 ty33 (fun f u w hs => kn rfl (Pv.flat (hs.opq 7 _ rfl rfl))), trivial⟩
    rintro p10 x10 u10 hg10 ⟨q4, q7, -⟩
    replace h5_1 := h5_1.sub hg10.1; replace h8_5 := h8_5.sub dLk hg10.1; replace h9_5 := h9_5.sub dLk hg10.1
    have hG10 := hG9.trans hg10
    obtain ⟨s10_7, A10_7, n10_7, c10_7, t10_7, D10_7, m10_7, d10_7, e10_7, h10_7, k10_7⟩ := q7; rw [fun_upd (i := 7) e10_7]
    refine next (g' := [(4, pt (p1 2) 0)]) (bx' := [⟨p1 2, 33, [.bool s10_7, .slice A10_7 n10_7 c10_7, .bool t10_7, .slice D10_7 m10_7 d10_7]⟩]) (rw' := []) (by kernel_rfl) (by kernel_rfl) (by kernel_rfl) ?_
    exact tri_ret (ret1 rfl (.agg #[.bool s10_7, .slice A10_7 n10_7 c10_7, .bool t10_7, .slice D10_7 m10_7 d10_7]) (rv_cell 0 (p1 2) 4 33 [.bool s10_7, .slice A10_7 n10_7 c10_7, .bool t10_7, .slice D10_7 m10_7 d10_7] rfl rfl ty33 rfl rfl rfl) hG10 (⟨_, _, _, _, _, _, _, _, rfl, by have := h10_7; rw [hX] at this; rw [hq.1]; exact this, by have := k10_7; rw [hY] at this; rw [hq.2]; exact this⟩))
  · have hq := rat_made (x := x) (y := y) (by omega)
    have hgp : 0 < Nat.gcd x.natAbs y.natAbs := Nat.gcd_pos_of_pos_right _ (by omega); have hyn : y = ((y.natAbs : Nat) : Int) := by omega
    refine tri_reg mixed [.con (.agg #[.bool s3_1, .slice A3_1 n3_1 c3_1]), .con (.int .i64 (sg y)), .con (.bool false)] [4, 5, 6, 20] [0, 1, 2] [] ?_ (by decide) ?_ ?_ _ _
    · kernel_rfl
    · exact ⟨ld 2 0 2 ty31, cc fun f u w hs => (r02_Sign ⟨_, _, _, _, rfl, (h3_1.sub hs.old).gi (id h1.zl)⟩ (by omega)), pw (bf (p := (sg y) < 0) (by exact fun h => hy0 (sgneg.1 h))), trivial⟩
    rintro p11 x11 u11 hg11 -
    replace h2_1 := h2_1.sub hg11.1; replace h3_1 := h3_1.sub hg11.1
    have hG11 := hG3.trans hg11
    refine next (g' := [(4, pt (p1 2) 0), (5, pt (p2 2) 0), (6, pt (p3 2) 0), (20, .bool false)]) (bx' := [⟨p1 2, 33, [.bool false, .slice none 0 0, .bool false, .slice none 0 0]⟩, ⟨p2 2, 31, [.bool s2_1, .slice A2_1 n2_1 c2_1]⟩, ⟨p3 2, 31, [.bool s3_1, .slice A3_1 n3_1 c3_1]⟩]) (rw' := []) (by kernel_rfl) (by kernel_rfl) (by kernel_rfl) ?_
    refine tri_false rfl ?_
    refine tri_skip ?_
    refine next rfl rfl rfl ?_
    refine tri_seq ?_
    refine tri_reg mixed [.con (pt (p2 2) 1), .con (.slice A2_1 n2_1 c2_1), .con (pt (p3 2) 1), .con (.slice A3_1 n3_1 c3_1), .opq (fun u r => LCv u r (Nat.gcd (x).natAbs (y).natAbs)), .cpy 4] [4, 5, 6, 7] [0, 1, 2] [] ?_ (by decide) ?_ ?_ _ _
    · kernel_rfl
    · exact ⟨pu, ld 1 1 1 ty29, pu, ld 2 1 1 ty29, ca (LCv.m _) fun f u w hs => (r01_Gcd ⟨_, _, _, rfl, ((h2_1.sub hs.old).gi (id h0.zl)).1, (h2_1.sub hs.old).2.rn⟩ ⟨_, _, _, rfl, ((h3_1.sub hs.old).gi (id h1.zl)).1, (h3_1.sub hs.old).2.rn⟩ (by omega) (by omega)), cp, trivial⟩
    rintro p12 x12 u12 hg12 ⟨q4, -⟩
    replace h2_1 := h2_1.sub hg12.1; replace h3_1 := h3_1.sub hg12.1
    have hG12 := hG11.trans hg12
    obtain ⟨A12_4, n12_4, c12_4, e12_4, h12_4, l12_4, l12_4n, l12_4M⟩ := q4.open; rw [fun_upd (i := 4) e12_4]
    refine next (g' := [(4, pt (p1 2) 0), (5, pt (p2 2) 0), (6, pt (p3 2) 0), (7, .slice A12_4 n12_4 c12_4)]) (bx' := [⟨p1 2, 33, [.bool false, .slice none 0 0, .bool false, .slice none 0 0]⟩, ⟨p2 2, 31, [.bool s2_1, .slice A2_1 n2_1 c2_1]⟩, ⟨p3 2, 31, [.bool s3_1, .slice A3_1 n3_1 c3_1]⟩]) (rw' := []) (by kernel_rfl) (by kernel_rfl) (by kernel_rfl) ?_
    refine tri_seq ?_
    refine tri_reg mixed [.con (pt (p2 2) 1), .con (.slice A2_1 n2_1 c2_1), .con (.slice A12_4 n12_4 c12_4), .opq (Tup3 (fun u r => LCv u r ((x).natAbs / (Nat.gcd (x).natAbs (y).natAbs))) (fun u r => LCv u r ((x).natAbs % (Nat.gcd (x).natAbs (y).natAbs))) (Is (.int .i64 0))), .opq (Tup3 (fun u r => LCv u r ((x).natAbs / (Nat.gcd (x).natAbs (y).natAbs))) (fun u r => LCv u r ((x).natAbs % (Nat.gcd (x).natAbs (y).natAbs))) (Is (.int .i64 0))), .opq (fun u r => LCv u r ((x).natAbs / (Nat.gcd (x).natAbs (y).natAbs))), .opq (fun u r => LCv u r ((x).natAbs % (Nat.gcd (x).natAbs (y).natAbs))), .con (.int .i64 0), .cpy 5, .cpy 6, .con (.int .i64 0)] [4, 5, 6, 7, 8] [0, 1, 2] [] ?_ (by decide) ?_ ?_ _ _
    · kernel_rfl
    · exact ⟨pu, ld 1 1 1 ty29, pu, ca (Tup3.mono (LCv.m _) (LCv.m _) (Is.mono _)) fun f u w hs => (r01_Div ⟨_, _, _, rfl, ((h2_1.sub hs.old).gi (id h0.zl)).1, (h2_1.sub hs.old).2.rn⟩ (Lv.of (b := (max k l)) (h12_4.sub dLk hs.old) (dig_lim _) (dig_val _) (lim_gcd (id h0.zl) (id h1.zl))) (by omega) (by omega) (by exact hgp)), mv 3 (Tup3.mono (LCv.m _) (LCv.m _) (Is.mono _)), ex3a 4 (LCv.m _), ex3b 4 (LCv.m _), ex3c 4, cp, cp, pu, trivial⟩
    rintro p13 x13 u13 hg13 ⟨q3, q4, q5, q6, -⟩
    replace h12_4 := h12_4.sub dLk hg13.1; replace h2_1 := h2_1.sub hg13.1; replace h3_1 := h3_1.sub hg13.1
    have hG13 := hG12.trans hg13
    obtain ⟨A13_5, n13_5, c13_5, e13_5, h13_5, l13_5, l13_5n, l13_5M⟩ := q5.open; rw [fun_upd (i := 5) e13_5]
    refine next (g' := [(4, pt (p1 2) 0), (5, pt (p2 2) 0), (6, pt (p3 2) 0), (7, .slice A12_4 n12_4 c12_4), (8, .slice A13_5 n13_5 c13_5)]) (bx' := [⟨p1 2, 33, [.bool false, .slice none 0 0, .bool false, .slice none 0 0]⟩, ⟨p2 2, 31, [.bool s2_1, .slice A2_1 n2_1 c2_1]⟩, ⟨p3 2, 31, [.bool s3_1, .slice A3_1 n3_1 c3_1]⟩]) (rw' := []) (by kernel_rfl) (by kernel_rfl) (by kernel_rfl) ?_
    refine tri_seq ?_
    refine tri_reg mixed [.con (pt (p3 2) 1), .con (.slice A3_1 n3_1 c3_1), .con (.slice A12_4 n12_4 c12_4), .opq (Tup3 (fun u r => LCv u r ((y).natAbs / (Nat.gcd (x).natAbs (y).natAbs))) (fun u r => LCv u r ((y).natAbs % (Nat.gcd (x).natAbs (y).natAbs))) (Is (.int .i64 0))), .opq (Tup3 (fun u r => LCv u r ((y).natAbs / (Nat.gcd (x).natAbs (y).natAbs))) (fun u r => LCv u r ((y).natAbs % (Nat.gcd (x).natAbs (y).natAbs))) (Is (.int .i64 0))), .opq (fun u r => LCv u r ((y).natAbs / (Nat.gcd (x).natAbs (y).natAbs))), .opq (fun u r => LCv u r ((y).natAbs % (Nat.gcd (x).natAbs (y).natAbs))), .con (.int .i64 0), .cpy 5, .cpy 6, .con (.int .i64 0)] [4, 5, 8, 11] [0, 1] [] ?_ (by decide) ?_ ?_ _ _
    · kernel_rfl
    · exact ⟨pu, ld 2 1 1 ty29, pu, ca (Tup3.mono (LCv.m _) (LCv.m _) (Is.mono _)) fun f u w hs => (r01_Div ⟨_, _, _, rfl, ((h3_1.sub hs.old).gi (id h1.zl)).1, (h3_1.sub hs.old).2.rn⟩ (Lv.of (b := (max k l)) (h12_4.sub dLk hs.old) (dig_lim _) (dig_val _) (lim_gcd (id h0.zl) (id h1.zl))) (by omega) (by omega) (by exact hgp)), mv 3 (Tup3.mono (LCv.m _) (LCv.m _) (Is.mono _)), ex3a 4 (LCv.m _), ex3b 4 (LCv.m _), ex3c 4, cp, cp, pu, trivial⟩
    rintro p14 x14 u14 hg14 ⟨q3, q4, q5, q6, -⟩
    replace h12_4 := h12_4.sub dLk hg14.1; replace h13_5 := h13_5.sub dLk hg14.1; replace h2_1 := h2_1.sub hg14.1; replace h3_1 := h3_1.sub hg14.1
    have hG14 := hG13.trans hg14
    obtain ⟨A14_5, n14_5, c14_5, e14_5, h14_5, l14_5, l14_5n, l14_5M⟩ := q5.open; rw [fun_upd (i := 5) e14_5]
    refine next (g' := [(4, pt (p1 2) 0), (5, pt (p2 2) 0), (8, .slice A13_5 n13_5 c13_5), (11, .slice A14_5 n14_5 c14_5)]) (bx' := [⟨p1 2, 33, [.bool false, .slice none 0 0, .bool false, .slice none 0 0]⟩, ⟨p2 2, 31, [.bool s2_1, .slice A2_1 n2_1 c2_1]⟩]) (rw' := []) (by kernel_rfl) (by kernel_rfl) (by kernel_rfl) ?_
    refine tri_seq ?_
    have hs5 := h2_1.1; have hX := div_is hs5 (Nat.gcd_dvd_left x.natAbs y.natAbs); have hY : ((y.natAbs / Nat.gcd x.natAbs y.natAbs : Nat) : Int) = y / ((Int.gcd x y : Nat) : Int) := by rw [Int.natCast_ediv, ← hyn]; rfl
    refine tri_reg mixed [.con (pt (p2 2) 0), .con (.bool s2_1), .con (.slice A13_5 n13_5 c13_5), .con (.agg #[.bool s2_1, .slice A13_5 n13_5 c13_5]), .opq (fun u r => Cv u r (intv s2_1 ((x).natAbs / (Nat.gcd (x).natAbs (y).natAbs)))), .con (.slice A14_5 n14_5 c14_5), .con (.agg #[.bool false, .slice A14_5 n14_5 c14_5]), .opq (fun u r => Pv u r (intv s2_1 ((x).natAbs / (Nat.gcd (x).natAbs (y).natAbs))) ((((y).natAbs / (Nat.gcd (x).natAbs (y).natAbs)) : Nat) : Int)), .sto ⟨0, 0, .op 7⟩] [4] [0] [] ?_ (by decide) ?_ ?_ _ _
    · kernel_rfl
    · exact ⟨pu, ld 1 0 1 ty4, pu, pu, ca (Cv.m _) fun f u w hs => (r02_Norm (iv_of (s := s2_1) (Lv.of (b := k) (h13_5.sub dLk hs.old) (dig_lim _) (dig_val _) (Nat.le_trans (lim_mono (Nat.div_le_self _ _)) (id h0.zl)))) (by omega)), pu, pu, bqX (Pv.m _ _) fun f u w hs => by obtain ⟨s__0, A__0, n__0, c__0, e__0, h__0⟩ := hs.opq 4 _ rfl rfl; exact ⟨.agg #[.bool s__0, .slice A__0 n__0 c__0, .bool false, .slice A14_5 n14_5 c14_5], ⟨_, _, _, _, _, _, _, _, rfl, h__0, (ci_nat (LCv.of (h14_5.sub dLk hs.old)))⟩, by rw [fun_upd e__0]; kernel_rfl⟩, st 0 0 4 ty33 (fun f u w hs => kn rfl (Pv.flat (hs.opq 7 _ rfl rfl))), trivial⟩
    rintro p15 x15 u15 hg15 ⟨q4, q7, -⟩
    replace h13_5 := h13_5.sub dLk hg15.1; replace h14_5 := h14_5.sub dLk hg15.1; replace h2_1 := h2_1.sub hg15.1
    have hG15 := hG14.trans hg15
    obtain ⟨s15_7, A15_7, n15_7, c15_7, t15_7, D15_7, m15_7, d15_7, e15_7, h15_7, k15_7⟩ := q7; rw [fun_upd (i := 7) e15_7]
    refine next (g' := [(4, pt (p1 2) 0)]) (bx' := [⟨p1 2, 33, [.bool s15_7, .slice A15_7 n15_7 c15_7, .bool t15_7, .slice D15_7 m15_7 d15_7]⟩]) (rw' := []) (by kernel_rfl) (by kernel_rfl) (by kernel_rfl) ?_
    exact tri_ret (ret1 rfl (.agg #[.bool s15_7, .slice A15_7 n15_7 c15_7, .bool t15_7, .slice D15_7 m15_7 d15_7]) (rv_cell 0 (p1 2) 4 33 [.bool s15_7, .slice A15_7 n15_7 c15_7, .bool t15_7, .slice D15_7 m15_7 d15_7] rfl rfl ty33 rfl rfl rfl) hG15 (⟨_, _, _, _, _, _, _, _, rfl, by have := h15_7; rw [hX] at this; rw [hq.1]; exact this, by have := k15_7; rw [hY] at this; rw [hq.2]; exact this⟩))
end Go.Proofs.Ytaagioghkicdkaa
