/- Whole numbers between floats: the document, and the law. -/
import Derived.Test.YtlmiadjogdfjkaaKZ
set_option linter.unusedVariables false
set_option linter.unusedSimpArgs false
set_option maxRecDepth 100000
namespace Go.Proofs.Ytlmiadjogdfjkaa.V
open Go.RowKit Mt Nml
theorem iv_rdiv {i N M D k l : Nat} (hM : M = N * 2 ^ (54 - i - nbits N)) (hD : D = 2 ^ (nbits N + i - 54)) (hk : k ≤ 1099511627776) (hl : l ≤ 1099511627776) (hlim : lim D ≤ l) : Fn Try.prog 67 [T.L M k, T.L D l] [] [] [] (T.tup [T.l cU (dig (qN i N)), T.l cU (dig (rN i N)), T.c (.int .i64 0)]) := by
  subst hM hD
  exact r01_Div (Nat.two_pow_pos _) hk hl hlim
theorem wd_eq (n q : Nat) : wd (n + 1022) q = (n + 1021) * 4503599627370496 + q := by unfold wd; rw [show n + 1022 - 1 = n + 1021 by omega]
theorem wd_F {b : Nat} (h : b < 9218868437227405312) : (T.c (.float .f64 b)).le (T.F (some b)) := fun β u v k => ⟨b, ⟨by omega, fo_s (by unfold Fl.isN Fl.rung Fl.INF; exact decide_eq_false (by omega))⟩, k⟩

theorem r9_cut1 {i N k l : Nat} {e : Int} (hi : i ≤ 1) (hN : 0 < N) (he : e = ((nbits N : Nat) : Int) + ((i : Nat) : Int) - 54) (hk : k ≤ 1073741824) (hl : l ≤ 1073741824) (hl1 : lim 1 ≤ l) (hb : nbits N ≤ 1099511627776) : Fn Try.prog 76 [T.L N k, T.L 1 l, T.c (.int .i64 e)] [] [] [] (T.tup [T.l cU (dig (qN i N)), T.c (.bool (decide (rN i N = 0)))]) := by
  refine fn_of Try.func76 rfl (by show 3 ≤ 33; decide) fun cx hcx => ?_
  refine tri_sub (sl 0 rfl (sl 1 rfl (sl 2 rfl sn))) en ?_
  have hb0 := nbits_pos hN
  have t1 := two_limb (54 - i - nbits N)
  have t2 := two_limb (nbits N + i - 54)
  have t3 := shl_len N (54 - i - nbits N)
  have t4 := shl_len 1 (nbits N + i - 54)
  rw [one_bits] at t4
  refine tri_seq ?_
  refine tri_reg mixed hcx ?_ _ _
  refine asg rfl ?_
  refine asg rfl ?_
  refine ⟨by kernel_rfl, ?_⟩
  refine nx (sl 0 rfl (sl 1 rfl (sl 2 rfl sn))) en ?_
  refine tri_seq ?_
  refine tri_seq ?_
  rcases Nat.lt_or_ge (nbits N + i) 54 with h5 | h5
  · refine tri_reg mixed hcx ?_ _ _
    refine mv rfl ?_
    refine clt rfl rfl (decide_eq_true (by omega)) ?_
    refine ⟨by kernel_rfl, ?_⟩
    refine nx (sl 0 rfl (sl 1 rfl (sl 2 rfl (sl 12 rfl sn)))) en ?_
    refine tri_true rfl rfl ?_
    refine tri_reg mixed hcx ?_ _ _
    refine mv rfl ?_
    refine mv rfl ?_
    refine ng (((54 - i - nbits N : Nat) : Int)) rfl rfl (by omega) ?_
    refine ca rfl (h := r01_Two (by omega)) (hn := ?_)
    refine ca rfl (h := r01_Mul (by omega) (by omega)) (hn := ?_)
    refine asg rfl ?_
    refine ⟨by kernel_rfl, ?_⟩
    refine nx (sl 0 rfl (sl 1 rfl sn)) en ?_
    refine tri_seq ?_
    refine tri_reg mixed hcx ?_ _ _
    refine mv rfl ?_
    refine mv rfl ?_
    refine ca rfl (h := iv_rdiv (i := i) (N := N) rfl (by rw [show nbits N + i - 54 = 0 by omega]) (by omega) (by omega) hl1) (hn := ?_)
    refine mv rfl ?_
    refine ex rfl rfl ?_
    refine ex rfl rfl ?_
    refine ex rfl rfl ?_
    refine asg rfl ?_
    refine asg rfl ?_
    refine asg rfl ?_
    refine ⟨by kernel_rfl, ?_⟩
    refine nx (sl 8 rfl (sl 9 rfl sn)) en ?_
    refine tri_seq ?_
    refine tri_reg mixed hcx ?_ _ _
    refine mv rfl ?_
    refine mv rfl ?_
    refine ln slLs rfl ?_
    refine ceq rfl rfl rfl ?_
    refine asg rfl ?_
    refine asg rfl ?_
    refine ⟨by kernel_rfl, ?_⟩
    refine nx (sl 6 rfl (sl 7 rfl sn)) en ?_
    refine tri_ret ?_
    repeat (first | refine pn_thenr ?_ | refine pn_blkr ?_)
    exact ret2 hcx rfl (rv_tmp rfl) (rv_tmp rfl) (tup_le ⟨.refl _, .of (by rw [← dig_nil]), trivial⟩) en
  · refine tri_as 2 (Z := T.c (.int .i64 ((nbits N + i - 54 : Nat) : Int))) rfl (ci (by omega)) ?_
    refine tri_reg mixed hcx ?_ _ _
    refine mv rfl ?_
    refine clt rfl rfl (decide_eq_false (by omega)) ?_
    refine ⟨by kernel_rfl, ?_⟩
    refine nx (sl 0 rfl (sl 1 rfl (sl 2 rfl (sl 12 rfl sn)))) en ?_
    refine tri_false rfl rfl ?_
    refine tri_reg mixed hcx ?_ _ _
    refine mv rfl ?_
    refine mv rfl ?_
    refine ca rfl (h := r01_Two (by omega)) (hn := ?_)
    refine ca rfl (h := r01_Mul (by omega) (by omega)) (hn := ?_)
    refine asg rfl ?_
    refine ⟨by kernel_rfl, ?_⟩
    refine nx (sl 0 rfl (sl 1 rfl sn)) en ?_
    refine tri_seq ?_
    refine tri_reg mixed hcx ?_ _ _
    refine mv rfl ?_
    refine mv rfl ?_
    refine ca rfl (h := iv_rdiv (i := i) (N := N) (by rw [show 54 - i - nbits N = 0 by omega, Nat.pow_zero, Nat.mul_one]) (Nat.one_mul _) (by omega) (by omega) (Nat.le_refl _)) (hn := ?_)
    refine mv rfl ?_
    refine ex rfl rfl ?_
    refine ex rfl rfl ?_
    refine ex rfl rfl ?_
    refine asg rfl ?_
    refine asg rfl ?_
    refine asg rfl ?_
    refine ⟨by kernel_rfl, ?_⟩
    refine nx (sl 8 rfl (sl 9 rfl sn)) en ?_
    refine tri_seq ?_
    refine tri_reg mixed hcx ?_ _ _
    refine mv rfl ?_
    refine mv rfl ?_
    refine ln slLs rfl ?_
    refine ceq rfl rfl rfl ?_
    refine asg rfl ?_
    refine asg rfl ?_
    refine ⟨by kernel_rfl, ?_⟩
    refine nx (sl 6 rfl (sl 7 rfl sn)) en ?_
    refine tri_ret ?_
    repeat (first | refine pn_thenr ?_ | refine pn_blkr ?_)
    exact ret2 hcx rfl (rv_tmp rfl) (rv_tmp rfl) (tup_le ⟨.refl _, .of (by rw [← dig_nil]), trivial⟩) en

theorem r9_below1 {N k l : Nat} (hN : 0 < N) (hk : k ≤ 1073741824) (hl : l ≤ 1073741824) (hl1 : lim 1 ≤ l) (hb : nbits N ≤ 1099511627776) : Fn Try.prog 48 [T.L N k, T.L 1 l] [] [] [] (T.tup [T.F (some (flw N)), T.c (.bool (flx N))]) := by
  refine fn_of Try.func48 rfl (by show 2 ≤ 86; decide) fun cx hcx => ?_
  refine tri_sub (sl 0 rfl (sl 1 rfl sn)) en ?_
  have hn1 := one_bits
  have hb0 := nbits_pos hN
  have hq0 := q0_bits hN
  have hq1 := q1_rg hN
  have hq2 := q1_bits hN
  have hq3 := lim_bits (qN 0 N)
  have hq4 := lim_bits (qN 1 N)
  rw [hq0] at hq3
  rw [hq2] at hq4
  refine tri_seq ?_
  refine tri_reg mixed hcx ?_ _ _
  refine asg rfl ?_
  refine asg rfl ?_
  refine ⟨by kernel_rfl, ?_⟩
  refine nx (sl 0 rfl (sl 1 rfl sn)) en ?_
  refine tri_seq ?_
  refine tri_reg mixed hcx ?_ _ _
  refine mv rfl ?_
  refine ca rfl (h := r01_Bits (by omega)) (hn := ?_)
  refine mv rfl ?_
  refine ca rfl (h := r01_Bits (by omega)) (hn := ?_)
  refine sb (((nbits N : Nat) : Int) - 1) rfl rfl rfl (by omega) ?_
  refine sb (((nbits N : Nat) : Int) - 54) rfl rfl rfl (by omega) ?_
  refine asg rfl ?_
  refine ⟨by kernel_rfl, ?_⟩
  refine nx (sl 0 rfl (sl 1 rfl (sl 6 rfl sn))) en ?_
  refine tri_seq ?_
  refine tri_seq ?_
  refine tri_reg mixed hcx ?_ _ _
  refine mv rfl ?_
  refine clt rfl rfl (decide_eq_false (by omega)) ?_
  refine ⟨by kernel_rfl, ?_⟩
  refine nx (sl 0 rfl (sl 1 rfl (sl 6 rfl (sl 18 rfl sn)))) en ?_
  refine tri_false rfl rfl ?_
  refine tri_skip ?_
  refine nx (sl 0 rfl (sl 1 rfl (sl 6 rfl sn))) en ?_
  refine tri_seq ?_
  refine tri_reg mixed hcx ?_ _ _
  refine mv rfl ?_
  refine mv rfl ?_
  refine mv rfl ?_
  refine ca rfl (h := r9_cut1 (i := 0) (by omega) hN (by omega) (by omega) (by omega) hl1 hb) (hn := ?_)
  refine mv rfl ?_
  refine ex rfl rfl ?_
  refine ex rfl rfl ?_
  refine asg rfl ?_
  refine asg rfl ?_
  refine ⟨by kernel_rfl, ?_⟩
  refine nx (sl 0 rfl (sl 1 rfl (sl 6 rfl (sl 7 rfl (sl 8 rfl sn))))) en ?_
  refine tri_seq ?_
  refine tri_seq ?_
  refine tri_reg mixed hcx ?_ _ _
  refine mv rfl ?_
  refine ca rfl (h := r01_Bits (by omega)) (hn := ?_)
  refine cgt rfl rfl (decide_eq_true (by omega)) ?_
  refine ⟨by kernel_rfl, ?_⟩
  refine nx (sl 0 rfl (sl 1 rfl (sl 6 rfl (sl 7 rfl (sl 8 rfl (sl 28 rfl sn)))))) en ?_
  refine tri_true rfl rfl ?_
  refine tri_seq ?_
  refine tri_reg mixed hcx ?_ _ _
  refine mv rfl ?_
  refine ad (((nbits N : Nat) : Int) - 53) rfl rfl rfl (by omega) ?_
  refine asg rfl ?_
  refine ⟨by kernel_rfl, ?_⟩
  refine nx (sl 0 rfl (sl 1 rfl (sl 6 rfl sn))) en ?_
  refine tri_reg mixed hcx ?_ _ _
  refine mv rfl ?_
  refine mv rfl ?_
  refine mv rfl ?_
  refine ca rfl (h := r9_cut1 (i := 1) (by omega) hN (by omega) (by omega) (by omega) hl1 hb) (hn := ?_)
  refine mv rfl ?_
  refine ex rfl rfl ?_
  refine ex rfl rfl ?_
  refine asg rfl ?_
  refine asg rfl ?_
  refine ⟨by kernel_rfl, ?_⟩
  refine nx (sl 0 rfl (sl 1 rfl (sl 6 rfl (sl 7 rfl (sl 8 rfl sn))))) en ?_
  refine tri_seq ?_
  refine tri_seq ?_
  refine tri_reg mixed hcx ?_ _ _
  refine mv rfl ?_
  refine ca rfl (h := r01_Bits (by omega)) (hn := ?_)
  refine clt rfl rfl (decide_eq_false (by omega)) ?_
  refine mv rfl ?_
  refine j_off rfl rfl rfl rfl ?_
  refine j_off rfl rfl rfl rfl ?_
  refine pk rfl rfl ?_
  refine ⟨by kernel_rfl, ?_⟩
  refine nx (sl 0 rfl (sl 1 rfl (sl 6 rfl (sl 7 rfl (sl 8 rfl (sl 44 rfl sn)))))) en ?_
  refine tri_false rfl rfl ?_
  refine tri_skip ?_
  refine nx (sl 6 rfl (sl 7 rfl (sl 8 rfl sn))) en ?_
  refine tri_seq ?_
  refine tri_seq ?_
  rcases Nat.lt_or_ge 1024 (nbits N) with h7 | h7
  · refine tri_reg mixed hcx ?_ _ _
    refine mv rfl ?_
    refine cgt rfl rfl (decide_eq_true (by omega)) ?_
    refine ⟨by kernel_rfl, ?_⟩
    refine nx (sl 6 rfl (sl 7 rfl (sl 8 rfl (sl 55 rfl sn)))) en ?_
    refine tri_true rfl rfl ?_
    refine tri_seq ?_
    refine tri_reg mixed hcx ?_ _ _
    refine ca rfl (h := r9_of) (hn := ?_)
    refine asg rfl ?_
    refine asg rfl ?_
    refine ⟨by kernel_rfl, ?_⟩
    refine nx (sl 4 rfl (sl 5 rfl sn)) en ?_
    refine tri_ret ?_
    repeat (first | refine pn_thenr ?_ | refine pn_blkr ?_)
    exact ret2 hcx rfl (rv_tmp rfl) (rv_tmp rfl) (fl_big (by omega)) en
  · refine tri_reg mixed hcx ?_ _ _
    refine mv rfl ?_
    refine cgt rfl rfl (decide_eq_false (by omega)) ?_
    refine ⟨by kernel_rfl, ?_⟩
    refine nx (sl 6 rfl (sl 7 rfl (sl 8 rfl (sl 55 rfl sn)))) en ?_
    refine tri_false rfl rfl ?_
    refine tri_skip ?_
    refine nx (sl 6 rfl (sl 7 rfl (sl 8 rfl sn))) en ?_
    refine tri_seq ?_
    refine tri_reg mixed hcx ?_ _ _
    refine asg rfl ?_
    refine ⟨by kernel_rfl, ?_⟩
    refine nx (sl 6 rfl (sl 7 rfl (sl 8 rfl (sl 9 rfl sn)))) en ?_
    refine tri_seq ?_
    refine tri_seq ?_
    refine tri_as 7 (Z := T.l cU [((qN 1 N % 4294967296 : Nat) : Int), ((qN 1 N / 4294967296 : Nat) : Int)]) rfl (.of (by rw [dig_two (by omega) (by omega)])) ?_
    refine tri_reg mixed hcx ?_ _ _
    refine mv rfl ?_
    refine ln slLs rfl ?_
    refine sb (((2 : Nat) : Int) - 1) rfl rfl rfl ⟨rfl, by omega, by omega⟩ ?_
    refine asg rfl ?_
    refine ⟨by kernel_rfl, ?_⟩
    refine nx (sl 6 rfl (sl 7 rfl (sl 8 rfl (sl 9 rfl (sl 10 rfl sn))))) en ?_
    refine tri_block ?_
    refine tri_loop (ι := Nat) (fun j => [(6, T.c (.int .i64 (((nbits N : Nat) : Int) - 53))), (7, T.l cU [((qN 1 N % 4294967296 : Nat) : Int), ((qN 1 N / 4294967296 : Nat) : Int)]), (8, T.c (.bool (decide (rN 1 N = 0)))), (9, T.c (.int .u64 ((mm (qN 1 N) j : Nat) : Int))), (10, T.c (.int .i64 (((j : Nat) : Int) - 1)))]) (fun j => []) (fun j => j) (fun j => (j ≤ 2)) 2 (by omega) (sl 6 rfl (sl 7 rfl (sl 8 rfl (sw 9 rfl (ci rfl) (sw 10 rfl (ci (by show (2 : Int) - 1 = _; omega)) sn))))) en ?_
    rintro j hj
    refine tri_sub (sl 6 rfl (sl 7 rfl (sl 8 rfl (sl 9 rfl (sl 10 rfl sn))))) en ?_
    refine tri_seq ?_
    refine tri_seq ?_
    rcases (show j = 0 ∨ j = 1 ∨ j = 2 by omega) with h0 | h0 | h0
    · subst h0
      refine tri_reg mixed hcx ?_ _ _
      refine mv rfl ?_
      refine cge rfl rfl (decide_eq_false (by omega)) ?_
      refine ⟨by kernel_rfl, ?_⟩
      refine nx (sl 6 rfl (sl 7 rfl (sl 8 rfl (sl 9 rfl (sl 10 rfl (sl 61 rfl sn)))))) en ?_
      refine tri_false rfl rfl ?_
      refine tri_exit ?_
      repeat (first | refine pn_then ?_ | refine pn_oth (by decide) ?_)
      refine pn_ex ?_
      refine tri_as 9 (Z := T.c (.int .u64 ((qN 1 N : Nat) : Int))) rfl (ci rfl) ?_
      refine nx (sl 6 rfl (sl 8 rfl (sl 9 rfl sn))) en ?_
      refine tri_seq ?_
      refine tri_seq ?_
      obtain ⟨w, hw⟩ : ∃ w, w = (nbits N + 1021) * 4503599627370496 + qN 1 N := ⟨_, rfl⟩
      refine tri_reg mixed hcx ?_ _ _
      refine mv rfl ?_
      refine clt rfl rfl (decide_eq_false (by omega)) ?_
      refine ⟨by kernel_rfl, ?_⟩
      refine nx (sl 6 rfl (sl 8 rfl (sl 9 rfl (sl 73 rfl sn)))) en ?_
      refine tri_false rfl rfl ?_
      refine tri_skip ?_
      refine nx (sl 6 rfl (sl 8 rfl (sl 9 rfl sn))) en ?_
      refine tri_seq ?_
      refine tri_reg mixed hcx ?_ _ _
      refine mv rfl ?_
      refine ad (((nbits N + 1022 : Nat) : Int)) rfl rfl rfl (by omega) ?_
      refine cvt (((nbits N + 1022 : Nat) : Int)) rfl cvIU64 rfl (by omega) ?_
      refine ml ((((nbits N + 1022) * 4503599627370496 : Nat) : Int)) rfl rfl rfl (by omega) ?_
      refine mv rfl ?_
      refine ad ((((nbits N + 1022) * 4503599627370496 + qN 1 N : Nat) : Int)) rfl rfl rfl (by omega) ?_
      refine sb (((w : Nat) : Int)) rfl rfl rfl (by omega) ?_
      refine ca rfl (h := r9_of) (hn := ?_)
      refine mv rfl ?_
      refine asg rfl ?_
      refine asg rfl ?_
      refine ⟨by kernel_rfl, ?_⟩
      refine nx (sl 4 rfl (sl 5 rfl sn)) en ?_
      refine tri_ret ?_
      repeat (first | refine pn_thenr ?_ | refine pn_blkr ?_)
      exact ret2 hcx rfl (rv_tmp rfl) (rv_tmp rfl) (tup_le ⟨(wd_F (by omega)).trans (f_eq (by rw [flw_fit (by omega), wd_eq]; exact congrArg some hw)), .of (by rw [flx_fit (by omega)]), trivial⟩) en
    · subst h0
      refine tri_as 10 (Z := T.c (.int .i64 ((0 : Nat) : Int))) rfl (ci (by omega)) ?_
      refine tri_as 9 (Z := T.c (.int .u64 ((qN 1 N / 4294967296 : Nat) : Int))) rfl (ci rfl) ?_
      refine tri_reg mixed hcx ?_ _ _
      refine mv rfl ?_
      refine cge rfl rfl (decide_eq_true (by omega)) ?_
      refine ⟨by kernel_rfl, ?_⟩
      refine nx (sl 6 rfl (sl 7 rfl (sl 8 rfl (sl 9 rfl (sl 10 rfl (sl 61 rfl sn)))))) en ?_
      refine tri_true rfl rfl ?_
      refine tri_skip ?_
      refine nx (sl 6 rfl (sl 7 rfl (sl 8 rfl (sl 9 rfl (sl 10 rfl sn))))) en ?_
      refine tri_seq ?_
      refine tri_block ?_
      refine tri_reg mixed hcx ?_ _ _
      refine mv rfl ?_
      refine ml (((qN 1 N / 4294967296 * 4294967296 : Nat) : Int)) rfl rfl rfl (by omega) ?_
      refine mv rfl ?_
      refine mv rfl ?_
      refine ix rfl rfl slLs ⟨rfl, by simp⟩ ?_
      refine lf rfl tyU32 ?_
      refine cvt (((qN 1 N % 4294967296 : Nat) : Int)) rfl cvU32U64 rfl ⟨rfl, by omega, by omega⟩ ?_
      refine ad (((qN 1 N / 4294967296 * 4294967296 + qN 1 N % 4294967296 : Nat) : Int)) rfl rfl rfl (by omega) ?_
      refine asg rfl ?_
      refine ⟨by kernel_rfl, ?_⟩
      refine pn_blk ?_
      refine nx (sl 6 rfl (sl 7 rfl (sl 8 rfl (sl 9 rfl (sl 10 rfl sn))))) en ?_
      refine tri_reg mixed hcx ?_ _ _
      refine mv rfl ?_
      refine sb (((0 : Nat) : Int) - 1) rfl rfl rfl (by omega) ?_
      refine asg rfl ?_
      refine ⟨by kernel_rfl, ?_⟩
      exact pn_back 0 (by first | omega | (dsimp only; omega)) (by omega) (sl 6 rfl (sl 7 rfl (sl 8 rfl (sw 9 rfl (ci (congrArg (fun z : Nat => (z : Int)) (show qN 1 N / 4294967296 * 4294967296 + qN 1 N % 4294967296 = mm (qN 1 N) 0 by unfold mm; simp; try omega))) (sl 10 rfl sn))))) en
    · subst h0
      refine tri_as 10 (Z := T.c (.int .i64 ((1 : Nat) : Int))) rfl (ci (by omega)) ?_
      refine tri_as 9 (Z := T.c (.int .u64 ((0 : Nat) : Int))) rfl (ci rfl) ?_
      refine tri_reg mixed hcx ?_ _ _
      refine mv rfl ?_
      refine cge rfl rfl (decide_eq_true (by omega)) ?_
      refine ⟨by kernel_rfl, ?_⟩
      refine nx (sl 6 rfl (sl 7 rfl (sl 8 rfl (sl 9 rfl (sl 10 rfl (sl 61 rfl sn)))))) en ?_
      refine tri_true rfl rfl ?_
      refine tri_skip ?_
      refine nx (sl 6 rfl (sl 7 rfl (sl 8 rfl (sl 9 rfl (sl 10 rfl sn))))) en ?_
      refine tri_seq ?_
      refine tri_block ?_
      refine tri_reg mixed hcx ?_ _ _
      refine mv rfl ?_
      refine ml (((0 * 4294967296 : Nat) : Int)) rfl rfl rfl (by omega) ?_
      refine mv rfl ?_
      refine mv rfl ?_
      refine ix rfl rfl slLs ⟨rfl, by simp⟩ ?_
      refine lf rfl tyU32 ?_
      refine cvt (((qN 1 N / 4294967296 : Nat) : Int)) rfl cvU32U64 rfl ⟨rfl, by omega, by omega⟩ ?_
      refine ad (((0 * 4294967296 + qN 1 N / 4294967296 : Nat) : Int)) rfl rfl rfl (by omega) ?_
      refine asg rfl ?_
      refine ⟨by kernel_rfl, ?_⟩
      refine pn_blk ?_
      refine nx (sl 6 rfl (sl 7 rfl (sl 8 rfl (sl 9 rfl (sl 10 rfl sn))))) en ?_
      refine tri_reg mixed hcx ?_ _ _
      refine mv rfl ?_
      refine sb (((1 : Nat) : Int) - 1) rfl rfl rfl (by omega) ?_
      refine asg rfl ?_
      refine ⟨by kernel_rfl, ?_⟩
      exact pn_back 1 (by first | omega | (dsimp only; omega)) (by omega) (sl 6 rfl (sl 7 rfl (sl 8 rfl (sw 9 rfl (ci (congrArg (fun z : Nat => (z : Int)) (show 0 * 4294967296 + qN 1 N / 4294967296 = mm (qN 1 N) 1 by unfold mm; simp; try omega))) (sl 10 rfl sn))))) en

theorem r9_belowQ {N k l : Nat} {q : Bool} (hq : flx N = q) (hN : 0 < N) (hk : k ≤ 1073741824) (hl : l ≤ 1073741824) (hl1 : lim 1 ≤ l) (hb : nbits N ≤ 1099511627776) : Fn Try.prog 48 [T.L N k, T.L 1 l] [] [] [] (T.tup [T.F (some (flw N)), T.c (.bool q)]) := hq ▸ r9_below1 hN hk hl hl1 hb

theorem r9_nought {o : Option Nat} : Fn Try.prog 51 [T.F o] [] [] [] (T.F (oPl o)) := by
  refine fn_of Try.func51 rfl (by show 1 ≤ 6; decide) fun cx hcx => ?_
  refine tri_sub (sl 0 rfl sn) en ?_
  refine tri_seq ?_
  refine tri_reg mixed hcx ?_ _ _
  refine asg rfl ?_
  refine ⟨by kernel_rfl, ?_⟩
  refine nx (sl 0 rfl sn) en ?_
  refine tri_seq ?_
  refine tri_seq ?_
  rcases Bool.eq_false_or_eq_true (oEq o (fo 0)) with h1 | h1
  · refine tri_reg mixed hcx ?_ _ _
    refine mv rfl ?_
    refine feq rfl rfl h1 ?_
    refine ⟨by kernel_rfl, ?_⟩
    refine nx (sl 0 rfl (sl 4 rfl sn)) en ?_
    refine tri_true rfl rfl ?_
    refine tri_seq ?_
    refine tri_reg mixed hcx ?_ _ _
    refine asg rfl ?_
    refine ⟨by kernel_rfl, ?_⟩
    refine nx (sl 2 rfl sn) en ?_
    refine tri_ret ?_
    repeat (first | refine pn_thenr ?_ | refine pn_blkr ?_)
    exact ret1 hcx rfl (rv_tmp rfl) (pl_z h1) en
  · refine tri_reg mixed hcx ?_ _ _
    refine mv rfl ?_
    refine feq rfl rfl h1 ?_
    refine ⟨by kernel_rfl, ?_⟩
    refine nx (sl 0 rfl (sl 4 rfl sn)) en ?_
    refine tri_false rfl rfl ?_
    refine tri_skip ?_
    refine nx (sl 0 rfl sn) en ?_
    refine tri_seq ?_
    refine tri_reg mixed hcx ?_ _ _
    refine mv rfl ?_
    refine asg rfl ?_
    refine ⟨by kernel_rfl, ?_⟩
    refine nx (sl 2 rfl sn) en ?_
    refine tri_ret ?_
    repeat (first | refine pn_thenr ?_ | refine pn_blkr ?_)
    exact ret1 hcx rfl (rv_tmp rfl) (f_eq (pl_n h1)) en

theorem r9_OfRat_p {z : Int} {k k2 : Nat} (hb : nbits z.natAbs ≤ 1073741824) (hz : 0 < z) : Fn Try.prog 24 [T.st [T.Z z k, T.Z 1 k2]] [] [] [] (T.st [T.F (some (flw z.natAbs)), T.F (gz z.natAbs)]) := by
  refine fn_of Try.func24 rfl (by show 1 ≤ 42; decide) fun cx hcx => ?_
  refine tri_sub (sl 0 rfl sn) en ?_
  refine tri_as 0 (Z := T.st [T.c (.bool (decide (z < 0))), T.l cU (dig z.natAbs), T.c (.bool false), T.l cU (dig 1)]) rfl (z_sp2 z k k2) ?_
  have hsg := sg_three z
  have hq : (T.st [T.c (.bool (decide (z < 0))), T.l cU (dig z.natAbs)]).le (T.Zi z (lim z.natAbs)) := zi_of (dig_lim _) (iv_natAbs z).symm (Nat.le_refl _)
  have hlm := lim_bits z.natAbs
  have hl1 := lim_bits 1
  rw [one_bits] at hl1
  have hzl : zl z = lim z.natAbs := rfl
  refine tri_seq ?_
  refine tri_reg mixed hcx ?_ _ _
  refine bxs 10 rfl ?_
  refine nw 11 zeV ?_
  refine ⟨by kernel_rfl, ?_⟩
  refine nx (sl 1 rfl (sl 2 rfl sn)) (el 10 rfl (el 11 rfl en)) ?_
  refine tri_seq ?_
  refine tri_reg mixed hcx ?_ _ _
  refine fa rfl fNum 0 ?_
  refine ld rfl rfl tyZ rfl ?_
  refine ca rfl (h := r02_Sign (by omega)) (hn := ?_)
  refine asg rfl ?_
  refine ⟨by kernel_rfl, ?_⟩
  refine nx (sl 1 rfl (sl 2 rfl (sl 3 rfl sn))) (el 10 rfl (el 11 rfl en)) ?_
  refine tri_seq ?_
  refine tri_seq ?_
  refine tri_reg mixed hcx ?_ _ _
  refine mv rfl ?_
  refine ceq rfl rfl (decide_eq_false (by omega)) ?_
  refine ⟨by kernel_rfl, ?_⟩
  refine nx (sl 1 rfl (sl 2 rfl (sl 3 rfl (sl 11 rfl sn)))) (el 10 rfl (el 11 rfl en)) ?_
  refine tri_false rfl rfl ?_
  refine tri_skip ?_
  refine nx (sl 1 rfl (sl 2 rfl (sl 3 rfl sn))) (el 10 rfl (el 11 rfl en)) ?_
  refine tri_seq ?_
  rcases Bool.eq_false_or_eq_true (flx z.natAbs) with h9 | h9
  · refine tri_reg mixed hcx ?_ _ _
    refine fa rfl fNum 0 ?_
    refine fa rfl fMag 1 ?_
    refine ld rfl rfl tyLs rfl ?_
    refine ca rfl (h := r01_Norm (by omega)) (hn := ?_)
    refine fa rfl fDen 2 ?_
    refine fa rfl fMag 3 ?_
    refine ld rfl rfl tyLs rfl ?_
    refine ca rfl (h := r01_Norm (by omega)) (hn := ?_)
    refine ca rfl (h := r9_belowQ h9 (by omega) (by omega) (by omega) (Nat.le_refl _) (by omega)) (hn := ?_)
    refine mv rfl ?_
    refine ex rfl rfl ?_
    refine ex rfl rfl ?_
    refine asg rfl ?_
    refine asg rfl ?_
    refine ⟨by kernel_rfl, ?_⟩
    refine nx (sl 2 rfl (sl 3 rfl (sl 4 rfl (sl 5 rfl sn)))) (el 10 rfl (el 11 rfl en)) ?_
    refine tri_seq ?_
    refine tri_reg mixed hcx ?_ _ _
    refine mv rfl ?_
    refine asg rfl ?_
    refine ⟨by kernel_rfl, ?_⟩
    refine nx (sl 2 rfl (sl 3 rfl (sl 4 rfl (sl 5 rfl (sl 6 rfl sn))))) (el 10 rfl (el 11 rfl en)) ?_
    refine tri_seq ?_
    refine tri_seq ?_
    refine tri_reg mixed hcx ?_ _ _
    refine mv rfl ?_
    refine nt rfl _ rfl ?_
    refine ⟨by kernel_rfl, ?_⟩
    refine nx (sl 2 rfl (sl 3 rfl (sl 4 rfl (sl 6 rfl (sl 27 rfl sn))))) (el 10 rfl (el 11 rfl en)) ?_
    refine tri_false rfl rfl ?_
    refine tri_skip ?_
    refine nx (sl 2 rfl (sl 3 rfl (sl 4 rfl (sl 6 rfl sn)))) (el 10 rfl (el 11 rfl en)) ?_
    refine tri_seq ?_
    refine tri_seq ?_
    refine tri_reg mixed hcx ?_ _ _
    refine mv rfl ?_
    refine clt rfl rfl (decide_eq_false (by omega)) ?_
    refine ⟨by kernel_rfl, ?_⟩
    refine nx (sl 2 rfl (sl 4 rfl (sl 6 rfl (sl 31 rfl sn)))) (el 10 rfl (el 11 rfl en)) ?_
    refine tri_false rfl rfl ?_
    refine tri_skip ?_
    refine nx (sl 2 rfl (sl 4 rfl (sl 6 rfl sn))) (el 10 rfl (el 11 rfl en)) ?_
    refine tri_seq ?_
    refine tri_reg mixed hcx ?_ _ _
    refine mv rfl ?_
    refine mv rfl ?_
    refine bu stV rfl ?_
    refine sts rfl rfl rfl tyV rfl ?_
    refine ⟨by kernel_rfl, ?_⟩
    refine nx (sl 2 rfl sn) (el 10 rfl (el 11 rfl en)) ?_
    refine tri_ret ?_
    repeat (first | refine pn_thenr ?_ | refine pn_blkr ?_)
    exact ret1 hcx rfl (rv_cell (c' := cx) (n := 0) rfl rfl tyV rfl) (v2_le (f_eq rfl) (f_eq (gz_t h9))) en
  · refine tri_reg mixed hcx ?_ _ _
    refine fa rfl fNum 0 ?_
    refine fa rfl fMag 1 ?_
    refine ld rfl rfl tyLs rfl ?_
    refine ca rfl (h := r01_Norm (by omega)) (hn := ?_)
    refine fa rfl fDen 2 ?_
    refine fa rfl fMag 3 ?_
    refine ld rfl rfl tyLs rfl ?_
    refine ca rfl (h := r01_Norm (by omega)) (hn := ?_)
    refine ca rfl (h := r9_belowQ h9 (by omega) (by omega) (by omega) (Nat.le_refl _) (by omega)) (hn := ?_)
    refine mv rfl ?_
    refine ex rfl rfl ?_
    refine ex rfl rfl ?_
    refine asg rfl ?_
    refine asg rfl ?_
    refine ⟨by kernel_rfl, ?_⟩
    refine nx (sl 2 rfl (sl 3 rfl (sl 4 rfl (sl 5 rfl sn)))) (el 10 rfl (el 11 rfl en)) ?_
    refine tri_seq ?_
    refine tri_reg mixed hcx ?_ _ _
    refine mv rfl ?_
    refine asg rfl ?_
    refine ⟨by kernel_rfl, ?_⟩
    refine nx (sl 2 rfl (sl 3 rfl (sl 4 rfl (sl 5 rfl (sl 6 rfl sn))))) (el 10 rfl (el 11 rfl en)) ?_
    refine tri_seq ?_
    refine tri_seq ?_
    refine tri_reg mixed hcx ?_ _ _
    refine mv rfl ?_
    refine nt rfl _ rfl ?_
    refine ⟨by kernel_rfl, ?_⟩
    refine nx (sl 2 rfl (sl 3 rfl (sl 4 rfl (sl 6 rfl (sl 27 rfl sn))))) (el 10 rfl (el 11 rfl en)) ?_
    refine tri_true rfl rfl ?_
    refine tri_reg mixed hcx ?_ _ _
    refine mv rfl ?_
    refine caf rfl (h := r9_Up) (hn := ?_)
    refine asg rfl ?_
    refine ⟨by kernel_rfl, ?_⟩
    refine nx (sl 2 rfl (sl 3 rfl (sl 4 rfl (sl 6 rfl sn)))) (el 10 rfl (el 11 rfl en)) ?_
    refine tri_seq ?_
    refine tri_seq ?_
    refine tri_reg mixed hcx ?_ _ _
    refine mv rfl ?_
    refine clt rfl rfl (decide_eq_false (by omega)) ?_
    refine ⟨by kernel_rfl, ?_⟩
    refine nx (sl 2 rfl (sl 4 rfl (sl 6 rfl (sl 31 rfl sn)))) (el 10 rfl (el 11 rfl en)) ?_
    refine tri_false rfl rfl ?_
    refine tri_skip ?_
    refine nx (sl 2 rfl (sl 4 rfl (sl 6 rfl sn))) (el 10 rfl (el 11 rfl en)) ?_
    refine tri_seq ?_
    refine tri_reg mixed hcx ?_ _ _
    refine mv rfl ?_
    refine mv rfl ?_
    refine bu stV rfl ?_
    refine sts rfl rfl rfl tyV rfl ?_
    refine ⟨by kernel_rfl, ?_⟩
    refine nx (sl 2 rfl sn) (el 10 rfl (el 11 rfl en)) ?_
    refine tri_ret ?_
    repeat (first | refine pn_thenr ?_ | refine pn_blkr ?_)
    exact ret1 hcx rfl (rv_cell (c' := cx) (n := 0) rfl rfl tyV rfl) (v2_le (f_eq rfl) (f_eq (gz_f h9))) en

theorem r9_OfRat_m {z : Int} {k k2 : Nat} (hb : nbits z.natAbs ≤ 1073741824) (hz : z < 0) : Fn Try.prog 24 [T.st [T.Z z k, T.Z 1 k2]] [] [] [] (T.st [T.F (oPl (ong (gz z.natAbs))), T.F (oPl (ong (some (flw z.natAbs))))]) := by
  refine fn_of Try.func24 rfl (by show 1 ≤ 42; decide) fun cx hcx => ?_
  refine tri_sub (sl 0 rfl sn) en ?_
  refine tri_as 0 (Z := T.st [T.c (.bool (decide (z < 0))), T.l cU (dig z.natAbs), T.c (.bool false), T.l cU (dig 1)]) rfl (z_sp2 z k k2) ?_
  have hsg := sg_three z
  have hq : (T.st [T.c (.bool (decide (z < 0))), T.l cU (dig z.natAbs)]).le (T.Zi z (lim z.natAbs)) := zi_of (dig_lim _) (iv_natAbs z).symm (Nat.le_refl _)
  have hlm := lim_bits z.natAbs
  have hl1 := lim_bits 1
  rw [one_bits] at hl1
  have hzl : zl z = lim z.natAbs := rfl
  refine tri_seq ?_
  refine tri_reg mixed hcx ?_ _ _
  refine bxs 10 rfl ?_
  refine nw 11 zeV ?_
  refine ⟨by kernel_rfl, ?_⟩
  refine nx (sl 1 rfl (sl 2 rfl sn)) (el 10 rfl (el 11 rfl en)) ?_
  refine tri_seq ?_
  refine tri_reg mixed hcx ?_ _ _
  refine fa rfl fNum 0 ?_
  refine ld rfl rfl tyZ rfl ?_
  refine ca rfl (h := r02_Sign (by omega)) (hn := ?_)
  refine asg rfl ?_
  refine ⟨by kernel_rfl, ?_⟩
  refine nx (sl 1 rfl (sl 2 rfl (sl 3 rfl sn))) (el 10 rfl (el 11 rfl en)) ?_
  refine tri_seq ?_
  refine tri_seq ?_
  refine tri_reg mixed hcx ?_ _ _
  refine mv rfl ?_
  refine ceq rfl rfl (decide_eq_false (by omega)) ?_
  refine ⟨by kernel_rfl, ?_⟩
  refine nx (sl 1 rfl (sl 2 rfl (sl 3 rfl (sl 11 rfl sn)))) (el 10 rfl (el 11 rfl en)) ?_
  refine tri_false rfl rfl ?_
  refine tri_skip ?_
  refine nx (sl 1 rfl (sl 2 rfl (sl 3 rfl sn))) (el 10 rfl (el 11 rfl en)) ?_
  refine tri_seq ?_
  rcases Bool.eq_false_or_eq_true (flx z.natAbs) with h9 | h9
  · refine tri_reg mixed hcx ?_ _ _
    refine fa rfl fNum 0 ?_
    refine fa rfl fMag 1 ?_
    refine ld rfl rfl tyLs rfl ?_
    refine ca rfl (h := r01_Norm (by omega)) (hn := ?_)
    refine fa rfl fDen 2 ?_
    refine fa rfl fMag 3 ?_
    refine ld rfl rfl tyLs rfl ?_
    refine ca rfl (h := r01_Norm (by omega)) (hn := ?_)
    refine ca rfl (h := r9_belowQ h9 (by omega) (by omega) (by omega) (Nat.le_refl _) (by omega)) (hn := ?_)
    refine mv rfl ?_
    refine ex rfl rfl ?_
    refine ex rfl rfl ?_
    refine asg rfl ?_
    refine asg rfl ?_
    refine ⟨by kernel_rfl, ?_⟩
    refine nx (sl 2 rfl (sl 3 rfl (sl 4 rfl (sl 5 rfl sn)))) (el 10 rfl (el 11 rfl en)) ?_
    refine tri_seq ?_
    refine tri_reg mixed hcx ?_ _ _
    refine mv rfl ?_
    refine asg rfl ?_
    refine ⟨by kernel_rfl, ?_⟩
    refine nx (sl 2 rfl (sl 3 rfl (sl 4 rfl (sl 5 rfl (sl 6 rfl sn))))) (el 10 rfl (el 11 rfl en)) ?_
    refine tri_seq ?_
    refine tri_seq ?_
    refine tri_reg mixed hcx ?_ _ _
    refine mv rfl ?_
    refine nt rfl _ rfl ?_
    refine ⟨by kernel_rfl, ?_⟩
    refine nx (sl 2 rfl (sl 3 rfl (sl 4 rfl (sl 6 rfl (sl 27 rfl sn))))) (el 10 rfl (el 11 rfl en)) ?_
    refine tri_false rfl rfl ?_
    refine tri_skip ?_
    refine nx (sl 2 rfl (sl 3 rfl (sl 4 rfl (sl 6 rfl sn)))) (el 10 rfl (el 11 rfl en)) ?_
    refine tri_seq ?_
    refine tri_seq ?_
    refine tri_reg mixed hcx ?_ _ _
    refine mv rfl ?_
    refine clt rfl rfl (decide_eq_true (by omega)) ?_
    refine ⟨by kernel_rfl, ?_⟩
    refine nx (sl 2 rfl (sl 4 rfl (sl 6 rfl (sl 31 rfl sn)))) (el 10 rfl (el 11 rfl en)) ?_
    refine tri_true rfl rfl ?_
    refine tri_seq ?_
    refine tri_reg mixed hcx ?_ _ _
    refine mv rfl ?_
    refine fng rfl ?_
    refine caf rfl (h := r9_nought) (hn := ?_)
    refine mv rfl ?_
    refine fng rfl ?_
    refine caf rfl (h := r9_nought) (hn := ?_)
    refine bu stV rfl ?_
    refine sts rfl rfl rfl tyV rfl ?_
    refine ⟨by kernel_rfl, ?_⟩
    refine nx (sl 2 rfl sn) (el 10 rfl (el 11 rfl en)) ?_
    refine tri_ret ?_
    repeat (first | refine pn_thenr ?_ | refine pn_blkr ?_)
    exact ret1 hcx rfl (rv_cell (c' := cx) (n := 0) rfl rfl tyV rfl) (v2_le (f_eq (congrArg (fun o => oPl (ong o)) (gz_t h9))) (f_eq rfl)) en
  · refine tri_reg mixed hcx ?_ _ _
    refine fa rfl fNum 0 ?_
    refine fa rfl fMag 1 ?_
    refine ld rfl rfl tyLs rfl ?_
    refine ca rfl (h := r01_Norm (by omega)) (hn := ?_)
    refine fa rfl fDen 2 ?_
    refine fa rfl fMag 3 ?_
    refine ld rfl rfl tyLs rfl ?_
    refine ca rfl (h := r01_Norm (by omega)) (hn := ?_)
    refine ca rfl (h := r9_belowQ h9 (by omega) (by omega) (by omega) (Nat.le_refl _) (by omega)) (hn := ?_)
    refine mv rfl ?_
    refine ex rfl rfl ?_
    refine ex rfl rfl ?_
    refine asg rfl ?_
    refine asg rfl ?_
    refine ⟨by kernel_rfl, ?_⟩
    refine nx (sl 2 rfl (sl 3 rfl (sl 4 rfl (sl 5 rfl sn)))) (el 10 rfl (el 11 rfl en)) ?_
    refine tri_seq ?_
    refine tri_reg mixed hcx ?_ _ _
    refine mv rfl ?_
    refine asg rfl ?_
    refine ⟨by kernel_rfl, ?_⟩
    refine nx (sl 2 rfl (sl 3 rfl (sl 4 rfl (sl 5 rfl (sl 6 rfl sn))))) (el 10 rfl (el 11 rfl en)) ?_
    refine tri_seq ?_
    refine tri_seq ?_
    refine tri_reg mixed hcx ?_ _ _
    refine mv rfl ?_
    refine nt rfl _ rfl ?_
    refine ⟨by kernel_rfl, ?_⟩
    refine nx (sl 2 rfl (sl 3 rfl (sl 4 rfl (sl 6 rfl (sl 27 rfl sn))))) (el 10 rfl (el 11 rfl en)) ?_
    refine tri_true rfl rfl ?_
    refine tri_reg mixed hcx ?_ _ _
    refine mv rfl ?_
    refine caf rfl (h := r9_Up) (hn := ?_)
    refine asg rfl ?_
    refine ⟨by kernel_rfl, ?_⟩
    refine nx (sl 2 rfl (sl 3 rfl (sl 4 rfl (sl 6 rfl sn)))) (el 10 rfl (el 11 rfl en)) ?_
    refine tri_seq ?_
    refine tri_seq ?_
    refine tri_reg mixed hcx ?_ _ _
    refine mv rfl ?_
    refine clt rfl rfl (decide_eq_true (by omega)) ?_
    refine ⟨by kernel_rfl, ?_⟩
    refine nx (sl 2 rfl (sl 4 rfl (sl 6 rfl (sl 31 rfl sn)))) (el 10 rfl (el 11 rfl en)) ?_
    refine tri_true rfl rfl ?_
    refine tri_seq ?_
    refine tri_reg mixed hcx ?_ _ _
    refine mv rfl ?_
    refine fng rfl ?_
    refine caf rfl (h := r9_nought) (hn := ?_)
    refine mv rfl ?_
    refine fng rfl ?_
    refine caf rfl (h := r9_nought) (hn := ?_)
    refine bu stV rfl ?_
    refine sts rfl rfl rfl tyV rfl ?_
    refine ⟨by kernel_rfl, ?_⟩
    refine nx (sl 2 rfl sn) (el 10 rfl (el 11 rfl en)) ?_
    refine tri_ret ?_
    repeat (first | refine pn_thenr ?_ | refine pn_blkr ?_)
    exact ret1 hcx rfl (rv_cell (c' := cx) (n := 0) rfl rfl tyV rfl) (v2_le (f_eq (congrArg (fun o => oPl (ong o)) (gz_f h9))) (f_eq rfl)) en

theorem r9_OfRat_z {z : Int} {k k2 : Nat} (hb : nbits z.natAbs ≤ 1073741824) (hz : z = 0) : Fn Try.prog 24 [T.st [T.Z z k, T.Z 1 k2]] [] [] [] (T.st [T.F (some 0), T.F (some 0)]) := by
  refine fn_of Try.func24 rfl (by show 1 ≤ 42; decide) fun cx hcx => ?_
  refine tri_sub (sl 0 rfl sn) en ?_
  refine tri_as 0 (Z := T.st [T.c (.bool (decide (z < 0))), T.l cU (dig z.natAbs), T.c (.bool false), T.l cU (dig 1)]) rfl (z_sp2 z k k2) ?_
  have hsg := sg_three z
  have hq : (T.st [T.c (.bool (decide (z < 0))), T.l cU (dig z.natAbs)]).le (T.Zi z (lim z.natAbs)) := zi_of (dig_lim _) (iv_natAbs z).symm (Nat.le_refl _)
  have hlm := lim_bits z.natAbs
  have hl1 := lim_bits 1
  rw [one_bits] at hl1
  have hzl : zl z = lim z.natAbs := rfl
  refine tri_seq ?_
  refine tri_reg mixed hcx ?_ _ _
  refine bxs 10 rfl ?_
  refine nw 11 zeV ?_
  refine ⟨by kernel_rfl, ?_⟩
  refine nx (sl 1 rfl (sl 2 rfl sn)) (el 10 rfl (el 11 rfl en)) ?_
  refine tri_seq ?_
  refine tri_reg mixed hcx ?_ _ _
  refine fa rfl fNum 0 ?_
  refine ld rfl rfl tyZ rfl ?_
  refine ca rfl (h := r02_Sign (by omega)) (hn := ?_)
  refine asg rfl ?_
  refine ⟨by kernel_rfl, ?_⟩
  refine nx (sl 1 rfl (sl 2 rfl (sl 3 rfl sn))) (el 10 rfl (el 11 rfl en)) ?_
  refine tri_seq ?_
  refine tri_seq ?_
  refine tri_reg mixed hcx ?_ _ _
  refine mv rfl ?_
  refine ceq rfl rfl (decide_eq_true (by omega)) ?_
  refine ⟨by kernel_rfl, ?_⟩
  refine nx (sl 1 rfl (sl 2 rfl (sl 3 rfl (sl 11 rfl sn)))) (el 10 rfl (el 11 rfl en)) ?_
  refine tri_true rfl rfl ?_
  refine tri_seq ?_
  refine tri_reg mixed hcx ?_ _ _
  refine bu stV rfl ?_
  refine st rfl rfl rfl tyV rfl ?_
  refine ⟨by kernel_rfl, ?_⟩
  refine nx (sl 2 rfl sn) (el 10 rfl (el 11 rfl en)) ?_
  refine tri_ret ?_
  repeat (first | refine pn_thenr ?_ | refine pn_blkr ?_)
  exact ret1 hcx rfl (rv_cell (c' := cx) (n := 0) rfl rfl tyV rfl) (v2_le z_F0 z_F0) en

theorem r9_OfInt_p {z : Int} {k : Nat} (hk : k ≤ 17592186044416) (hb : nbits z.natAbs ≤ 1073741824) (hz : 0 < z) : Fn Try.prog 22 [T.Zi z k] [] [] [] (T.st [T.F (some (flw z.natAbs)), T.F (gz z.natAbs)]) := by
  refine fn_of Try.func22 rfl (by show 1 ≤ 6; decide) fun cx hcx => ?_
  refine tri_sub (sl 0 rfl sn) en ?_
  refine tri_seq ?_
  refine tri_reg mixed hcx ?_ _ _
  refine bx 10 rfl ?_
  refine nw 11 zeV ?_
  refine ⟨by kernel_rfl, ?_⟩
  refine nx (sl 1 rfl (sl 2 rfl sn)) (el 10 rfl (el 11 rfl en)) ?_
  refine tri_seq ?_
  refine tri_reg mixed hcx ?_ _ _
  refine ld rfl rfl tyZ rfl ?_
  refine ca rfl (h := r03_Of (by omega)) (hn := ?_)
  refine ca rfl (h := r9_OfRat_p (z := z) hb hz) (hn := ?_)
  refine sts rfl rfl rfl tyV rfl ?_
  refine ⟨by kernel_rfl, ?_⟩
  refine nx (sl 2 rfl sn) (el 10 rfl (el 11 rfl en)) ?_
  refine tri_ret ?_
  repeat (first | refine pn_thenr ?_ | refine pn_blkr ?_)
  exact ret1 hcx rfl (rv_cell (c' := cx) (n := 0) rfl rfl tyV rfl) (.refl _) en

theorem r9_OfInt_m {z : Int} {k : Nat} (hk : k ≤ 17592186044416) (hb : nbits z.natAbs ≤ 1073741824) (hz : z < 0) : Fn Try.prog 22 [T.Zi z k] [] [] [] (T.st [T.F (oPl (ong (gz z.natAbs))), T.F (oPl (ong (some (flw z.natAbs))))]) := by
  refine fn_of Try.func22 rfl (by show 1 ≤ 6; decide) fun cx hcx => ?_
  refine tri_sub (sl 0 rfl sn) en ?_
  refine tri_seq ?_
  refine tri_reg mixed hcx ?_ _ _
  refine bx 10 rfl ?_
  refine nw 11 zeV ?_
  refine ⟨by kernel_rfl, ?_⟩
  refine nx (sl 1 rfl (sl 2 rfl sn)) (el 10 rfl (el 11 rfl en)) ?_
  refine tri_seq ?_
  refine tri_reg mixed hcx ?_ _ _
  refine ld rfl rfl tyZ rfl ?_
  refine ca rfl (h := r03_Of (by omega)) (hn := ?_)
  refine ca rfl (h := r9_OfRat_m (z := z) hb hz) (hn := ?_)
  refine sts rfl rfl rfl tyV rfl ?_
  refine ⟨by kernel_rfl, ?_⟩
  refine nx (sl 2 rfl sn) (el 10 rfl (el 11 rfl en)) ?_
  refine tri_ret ?_
  repeat (first | refine pn_thenr ?_ | refine pn_blkr ?_)
  exact ret1 hcx rfl (rv_cell (c' := cx) (n := 0) rfl rfl tyV rfl) (.refl _) en

theorem r9_OfInt_z {z : Int} {k : Nat} (hk : k ≤ 17592186044416) (hb : nbits z.natAbs ≤ 1073741824) (hz : z = 0) : Fn Try.prog 22 [T.Zi z k] [] [] [] (T.st [T.F (some 0), T.F (some 0)]) := by
  refine fn_of Try.func22 rfl (by show 1 ≤ 6; decide) fun cx hcx => ?_
  refine tri_sub (sl 0 rfl sn) en ?_
  refine tri_seq ?_
  refine tri_reg mixed hcx ?_ _ _
  refine bx 10 rfl ?_
  refine nw 11 zeV ?_
  refine ⟨by kernel_rfl, ?_⟩
  refine nx (sl 1 rfl (sl 2 rfl sn)) (el 10 rfl (el 11 rfl en)) ?_
  refine tri_seq ?_
  refine tri_reg mixed hcx ?_ _ _
  refine ld rfl rfl tyZ rfl ?_
  refine ca rfl (h := r03_Of (by omega)) (hn := ?_)
  refine ca rfl (h := r9_OfRat_z (z := z) hb hz) (hn := ?_)
  refine sts rfl rfl rfl tyV rfl ?_
  refine ⟨by kernel_rfl, ?_⟩
  refine nx (sl 2 rfl sn) (el 10 rfl (el 11 rfl en)) ?_
  refine tri_ret ?_
  repeat (first | refine pn_thenr ?_ | refine pn_blkr ?_)
  exact ret1 hcx rfl (rv_cell (c' := cx) (n := 0) rfl rfl tyV rfl) (.refl _) en

theorem ints_p {z : Int} {k : Nat} (hk : k ≤ 17592186044416) (hb : nbits z.natAbs ≤ 1073741824) (hz : 0 < z) : Fn Try.prog 4 [T.Zi z k] [] [] [] (T.c (.bool true)) := by
  refine fn_of Try.func4 rfl (by show 1 ≤ 11; decide) fun cx hcx => ?_
  refine tri_sub (sl 0 rfl sn) en ?_
  refine tri_seq ?_
  refine tri_reg mixed hcx ?_ _ _
  refine bx 10 rfl ?_
  refine asg rfl ?_
  refine ⟨by kernel_rfl, ?_⟩
  refine nx (sl 1 rfl sn) (el 10 rfl en) ?_
  refine tri_seq ?_
  refine tri_reg mixed hcx ?_ _ _
  refine ld rfl rfl tyZ rfl ?_
  refine ca rfl (h := iv_OfInt_p (by omega) (by omega) hz) (hn := ?_)
  refine ld rfl rfl tyZ rfl ?_
  refine ca rfl (h := r9_OfInt_p (by omega) (by omega) hz) (hn := ?_)
  refine caf rfl (h := (l9_same2 (pl_eo _) (pl_eo _))) (hn := ?_)
  refine mv rfl ?_
  refine ca rfl (h := l9_awake) (hn := ?_) (hg := gd1)
  refine pk rfl rfl ?_
  refine asg rfl ?_
  refine ⟨by kernel_rfl, ?_⟩
  refine nx (sl 2 rfl sn) (el 10 rfl en) ?_
  refine tri_ret ?_
  repeat (first | refine pn_thenr ?_ | refine pn_blkr ?_)
  exact ret1 hcx rfl (rv_tmp rfl) (.refl _) en

theorem ints_m {z : Int} {k : Nat} (hk : k ≤ 17592186044416) (hb : nbits z.natAbs ≤ 1073741824) (hz : z < 0) : Fn Try.prog 4 [T.Zi z k] [] [] [] (T.c (.bool true)) := by
  refine fn_of Try.func4 rfl (by show 1 ≤ 11; decide) fun cx hcx => ?_
  refine tri_sub (sl 0 rfl sn) en ?_
  refine tri_seq ?_
  refine tri_reg mixed hcx ?_ _ _
  refine bx 10 rfl ?_
  refine asg rfl ?_
  refine ⟨by kernel_rfl, ?_⟩
  refine nx (sl 1 rfl sn) (el 10 rfl en) ?_
  refine tri_seq ?_
  refine tri_reg mixed hcx ?_ _ _
  refine ld rfl rfl tyZ rfl ?_
  refine ca rfl (h := iv_OfInt_m (by omega) (by omega) hz) (hn := ?_)
  refine ld rfl rfl tyZ rfl ?_
  refine ca rfl (h := r9_OfInt_m (by omega) (by omega) hz) (hn := ?_)
  refine caf rfl (h := (l9_same2 (.inl rfl) (.inl rfl))) (hn := ?_)
  refine mv rfl ?_
  refine ca rfl (h := l9_awake) (hn := ?_) (hg := gd1)
  refine pk rfl rfl ?_
  refine asg rfl ?_
  refine ⟨by kernel_rfl, ?_⟩
  refine nx (sl 2 rfl sn) (el 10 rfl en) ?_
  refine tri_ret ?_
  repeat (first | refine pn_thenr ?_ | refine pn_blkr ?_)
  exact ret1 hcx rfl (rv_tmp rfl) (.refl _) en

theorem ints_z {z : Int} {k : Nat} (hk : k ≤ 17592186044416) (hb : nbits z.natAbs ≤ 1073741824) (hz : z = 0) : Fn Try.prog 4 [T.Zi z k] [] [] [] (T.c (.bool true)) := by
  refine fn_of Try.func4 rfl (by show 1 ≤ 11; decide) fun cx hcx => ?_
  refine tri_sub (sl 0 rfl sn) en ?_
  refine tri_seq ?_
  refine tri_reg mixed hcx ?_ _ _
  refine bx 10 rfl ?_
  refine asg rfl ?_
  refine ⟨by kernel_rfl, ?_⟩
  refine nx (sl 1 rfl sn) (el 10 rfl en) ?_
  refine tri_seq ?_
  refine tri_reg mixed hcx ?_ _ _
  refine ld rfl rfl tyZ rfl ?_
  refine ca rfl (h := iv_OfInt_z (by omega) (by omega) hz) (hn := ?_)
  refine ld rfl rfl tyZ rfl ?_
  refine ca rfl (h := r9_OfInt_z (by omega) (by omega) hz) (hn := ?_)
  refine caf rfl (h := (l9_same2 (.inl rfl) (.inl rfl))) (hn := ?_)
  refine mv rfl ?_
  refine ca rfl (h := l9_awake) (hn := ?_) (hg := gd1)
  refine pk rfl rfl ?_
  refine asg rfl ?_
  refine ⟨by kernel_rfl, ?_⟩
  refine nx (sl 2 rfl sn) (el 10 rfl en) ?_
  refine tri_ret ?_
  repeat (first | refine pn_thenr ?_ | refine pn_blkr ?_)
  exact ret1 hcx rfl (rv_tmp rfl) (.refl _) en

/-- A whole number has no more digits than its limbs hold. -/
theorem fn_bits {P : Program} {f : FuncId} {z : Int} {k : Nat} {As : List T} {R : T} (h : nbits z.natAbs ≤ 32 * k → Fn P f (T.Zi z k :: As) [] [] [] R) : Fn P f (T.Zi z k :: As) [] [] [] R := fun vs β u w F hs hr hH => by
  match vs, hr with
  | v :: r, ⟨⟨⟨s, xs⟩, ⟨h1, h2, h3⟩, h4⟩, hr'⟩ =>
    refine h ?_ (v :: r) β u w F hs ⟨⟨⟨s, xs⟩, ⟨h1, h2, h3⟩, h4⟩, hr'⟩ hH
    obtain ⟨M, hM⟩ := Int.eq_ofNat_of_zero_le (val_nonneg h1)
    have h3' : xs.length ≤ k := h3
    have e : z.natAbs = M := by
      rw [h2]
      show (iv s (val xs)).natAbs = M
      rw [hM]
      cases s <;> simp [iv]
    rw [e]
    exact Nat.le_trans (nbits_len h1 hM) (by omega)
/-- The law, of all whole numbers. -/
theorem ints_all {z : Int} {k : Nat} (hk : k ≤ 33554432) : Fn Try.prog 4 [T.Zi z k] [] [] [] (T.c (.bool true)) := by
  refine fn_bits fun hb => ?_
  rcases Int.lt_trichotomy z 0 with h | h | h
  · exact ints_m (by omega) (by omega) h
  · exact ints_z (by omega) (by omega) h
  · exact ints_p (by omega) (by omega) h
end Go.Proofs.Ytlmiadjogdfjkaa.V
