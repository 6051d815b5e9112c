/- Whole numbers between floats: the program. -/
import Derived.Test.YtlmiadjogdfjkaaFq
set_option linter.unusedVariables false
set_option linter.unusedSimpArgs false
set_option maxRecDepth 100000
namespace Go.Proofs.Ytlmiadjogdfjkaa.V
open Go.RowKit Mt Nml
theorem iv_div {i N k l : Nat} (hk : k ≤ 1099511627776) (hl : l ≤ 1099511627776) : Fn Try.prog 90 [T.L (N * 2 ^ (54 - i - nbits N)) k, T.L (1 * 2 ^ (nbits N + i - 54)) l] [] [] [] (T.tup [T.l cU (dig (qN i N)), T.l cU (dig (rN i N)), T.c (.int .i64 0)]) := by
  rw [Nat.one_mul]
  exact nat_Div (Nat.two_pow_pos _) hk hl
def mm (q j : Nat) : Nat := if j = 2 then 0 else if j = 1 then q / 4294967296 else q
theorem inf_one : oInf 1 (some 9218868437227405312) = true := by decide
theorem wd_i' {E q : Nat} (hE : E ≤ 2046) (h2 : q < 9007199254740992) {s : Int} : oInf s (some (wd E q)) = false := by rw [← wd_fo hE h2]; exact wd_i hE h2
theorem shl_len (N n : Nat) : lim (N * 2 ^ n) ≤ nbits N / 32 + 1 + (n / 32 + 1) := Nat.le_trans (lim_mul N (2 ^ n)) (Nat.add_le_add (lim_bits N) (two_limb n))
theorem one_bits : nbits 1 = 1 := by decide

theorem iv_floor1 {N k l : Nat} (hN : 0 < N) (hk : k ≤ 1099511627776) (hl : l ≤ 1099511627776) (hb : nbits N ≤ 1152921504606846976) : Fn Try.prog 71 [T.L N k, T.L 1 l] [] [] [] (T.tup [T.F (some (flw N)), T.c (.bool (flx N))]) := by
  refine fn_of Try.func71 rfl (by show 2 ≤ 79; decide) fun cx hcx => ?_
  refine tri_sub (sl 0 rfl (sl 1 rfl sn)) en ?_
  have hn1 := one_bits
  have hb0 := nbits_pos hN
  refine tri_seq ?_
  refine tri_reg mixed hcx ?_ _ _
  refine asg rfl ?_
  refine asg rfl ?_
  refine ⟨by kernel_rfl, ?_⟩
  refine nx (sl 0 rfl (sl 1 rfl sn)) en ?_
  refine tri_seq ?_
  refine tri_reg mixed hcx ?_ _ _
  refine mv rfl ?_
  refine ca rfl (h := nat_Bits (by omega)) (hn := ?_)
  refine mv rfl ?_
  refine ca rfl (h := nat_Bits (by omega)) (hn := ?_)
  refine sb (((nbits N : Nat) : Int) - 1) rfl rfl rfl (by omega) ?_
  refine sb (((nbits N : Nat) : Int) - 54) rfl rfl rfl (by omega) ?_
  refine asg rfl ?_
  refine ⟨by kernel_rfl, ?_⟩
  refine nx (sl 0 rfl (sl 1 rfl (sl 6 rfl sn))) en ?_
  refine tri_block ?_
  refine tri_loop (ι := Nat) (fun i => [(0, T.L N k), (1, T.L 1 l), (6, T.c (.int .i64 (((nbits N : Nat) : Int) - 54 + ((i : Nat) : Int))))]) (fun i => []) (fun i => 1 - i) (fun i => (i ≤ 1)) 0 (by omega) (sl 0 rfl (sl 1 rfl (sw 6 rfl (ci (by omega)) sn))) en ?_
  rintro i hi
  refine tri_sub (sl 0 rfl (sl 1 rfl (sl 6 rfl sn))) en ?_
  have hq0 := q0_bits hN
  have hq1 := q1_rg hN
  have hq2 := q1_bits hN
  have hq3 := lim_bits (qN 0 N)
  have hq4 := lim_bits (qN 1 N)
  rw [hq0] at hq3
  rw [hq2] at hq4
  refine tri_block ?_
  refine tri_seq ?_
  rcases (show i = 0 ∨ i = 1 by omega) with h0 | h0
  · subst h0
    refine tri_reg mixed hcx ?_ _ _
    refine mv rfl ?_
    refine mxb (((nbits N : Nat) : Int) - 54) rfl rfl (by omega) ?_
    refine asg rfl ?_
    refine ⟨by kernel_rfl, ?_⟩
    refine nx (sl 0 rfl (sl 1 rfl (sl 6 rfl sn))) en ?_
    refine tri_seq ?_
    rcases (show nbits N + 0 ≤ 2054 ∨ (2054 < nbits N + 0 ∧ nbits N ≤ 1048576) ∨ (1048576 < nbits N ∧ nbits N + 0 ≤ 1048629) ∨ (1048629 < nbits N + 0) by omega) with h5 | ⟨h5, h6⟩ | ⟨h5, h6⟩ | h5
    · refine tri_reg mixed hcx ?_ _ _
      refine mv rfl ?_
      refine mv rfl ?_
      refine ng (-(((nbits N : Nat) : Int) - 54)) rfl rfl (by omega) ?_
      refine mxb (((54 - 0 - nbits N : Nat) : Int)) rfl rfl (by omega) ?_
      refine ca rfl (h := nat_Shl (n := 54 - 0 - nbits N) hN (by omega) (by omega)) (hn := ?_)
      refine mv rfl ?_
      refine ex rfl rfl ?_
      refine ex rfl rfl ?_
      refine asg rfl ?_
      refine asg rfl ?_
      refine ⟨by kernel_rfl, ?_⟩
      refine nx (sl 0 rfl (sl 1 rfl (sl 6 rfl (sl 7 rfl sn)))) en ?_
      refine tri_seq ?_
      refine tri_reg mixed hcx ?_ _ _
      refine mv rfl ?_
      refine mv rfl ?_
      refine mxb (((nbits N + 0 - 54 : Nat) : Int)) rfl rfl (by omega) ?_
      refine ca rfl (h := nat_Shl (N := 1) (n := nbits N + 0 - 54) (by decide) (by omega) (by rw [one_bits]; omega)) (hn := ?_)
      refine mv rfl ?_
      refine ex rfl rfl ?_
      refine ex rfl rfl ?_
      refine asg rfl ?_
      refine asg rfl ?_
      refine ⟨by kernel_rfl, ?_⟩
      refine nx (sl 0 rfl (sl 1 rfl (sl 6 rfl (sl 7 rfl (sl 9 rfl sn))))) en ?_
      refine tri_seq ?_
      refine tri_seq ?_
      refine tri_reg mixed hcx ?_ _ _
      refine mv rfl ?_
      refine cgt rfl rfl (decide_eq_false (by omega)) ?_
      refine ⟨by kernel_rfl, ?_⟩
      refine nx (sl 0 rfl (sl 1 rfl (sl 6 rfl (sl 7 rfl (sl 9 rfl (sl 41 rfl sn)))))) en ?_
      refine tri_false rfl rfl ?_
      refine tri_skip ?_
      refine nx (sl 0 rfl (sl 1 rfl (sl 6 rfl (sl 7 rfl (sl 9 rfl sn))))) en ?_
      refine tri_seq ?_
      refine tri_reg mixed hcx ?_ _ _
      refine mv rfl ?_
      refine mv rfl ?_
      refine ca rfl (h := iv_div (i := 0) (N := N) (by have := shl_len N (54 - 0 - nbits N); omega) (by have := shl_len 1 (nbits N + 0 - 54); rw [one_bits] at this; omega)) (hn := ?_)
      refine mv rfl ?_
      refine ex rfl rfl ?_
      refine ex rfl rfl ?_
      refine ex rfl rfl ?_
      refine asg rfl ?_
      refine asg rfl ?_
      refine asg rfl ?_
      refine ⟨by kernel_rfl, ?_⟩
      refine nx (sl 0 rfl (sl 1 rfl (sl 6 rfl (sl 11 rfl (sl 12 rfl sn))))) en ?_
      refine tri_seq ?_
      refine tri_seq ?_
      refine tri_reg mixed hcx ?_ _ _
      refine mv rfl ?_
      refine ca rfl (h := nat_Bits (by omega)) (hn := ?_)
      refine cgt rfl rfl (decide_eq_true (by omega)) ?_
      refine ⟨by kernel_rfl, ?_⟩
      refine nx (sl 0 rfl (sl 1 rfl (sl 6 rfl (sl 11 rfl (sl 12 rfl (sl 51 rfl sn)))))) en ?_
      refine tri_true rfl rfl ?_
      refine tri_seq ?_
      refine tri_reg mixed hcx ?_ _ _
      refine mv rfl ?_
      refine ad (((nbits N : Nat) : Int) - 53) rfl rfl rfl (by omega) ?_
      refine asg rfl ?_
      refine ⟨by kernel_rfl, ?_⟩
      refine nx (sl 0 rfl (sl 1 rfl (sl 6 rfl sn))) en ?_
      refine tri_exit ?_
      repeat (first | refine pn_then ?_ | refine pn_oth (by decide) ?_)
      refine pn_ex ?_
      exact pn_back 1 (by first | omega | (dsimp only; omega)) (by omega) (sl 0 rfl (sl 1 rfl (sw 6 rfl (ci (by omega)) sn))) en
    · refine tri_reg mixed hcx ?_ _ _
      refine mv rfl ?_
      refine mv rfl ?_
      refine ng (-(((nbits N : Nat) : Int) - 54)) rfl rfl (by omega) ?_
      refine mxb (((54 - 0 - nbits N : Nat) : Int)) rfl rfl (by omega) ?_
      refine ca rfl (h := nat_Shl (n := 54 - 0 - nbits N) hN (by omega) (by omega)) (hn := ?_)
      refine mv rfl ?_
      refine ex rfl rfl ?_
      refine ex rfl rfl ?_
      refine asg rfl ?_
      refine asg rfl ?_
      refine ⟨by kernel_rfl, ?_⟩
      refine nx (sl 0 rfl (sl 1 rfl (sl 6 rfl (sl 7 rfl sn)))) en ?_
      refine tri_seq ?_
      refine tri_reg mixed hcx ?_ _ _
      refine mv rfl ?_
      refine mv rfl ?_
      refine mxb (((nbits N + 0 - 54 : Nat) : Int)) rfl rfl (by omega) ?_
      refine ca rfl (h := nat_Shl (N := 1) (n := nbits N + 0 - 54) (by decide) (by omega) (by rw [one_bits]; omega)) (hn := ?_)
      refine mv rfl ?_
      refine ex rfl rfl ?_
      refine ex rfl rfl ?_
      refine asg rfl ?_
      refine asg rfl ?_
      refine ⟨by kernel_rfl, ?_⟩
      refine nx (sl 0 rfl (sl 1 rfl (sl 6 rfl (sl 7 rfl (sl 9 rfl sn))))) en ?_
      refine tri_seq ?_
      refine tri_seq ?_
      refine tri_reg mixed hcx ?_ _ _
      refine mv rfl ?_
      refine cgt rfl rfl (decide_eq_true (by omega)) ?_
      refine ⟨by kernel_rfl, ?_⟩
      refine nx (sl 0 rfl (sl 1 rfl (sl 6 rfl (sl 7 rfl (sl 9 rfl (sl 41 rfl sn)))))) en ?_
      refine tri_true rfl rfl ?_
      refine tri_seq ?_
      refine tri_reg mixed hcx ?_ _ _
      refine asg rfl ?_
      refine asg rfl ?_
      refine ⟨by kernel_rfl, ?_⟩
      refine nx (sl 4 rfl (sl 5 rfl sn)) en ?_
      refine tri_ret ?_
      repeat (first | refine pn_thenr ?_ | refine pn_blkr ?_)
      exact ret2 hcx rfl (rv_tmp rfl) (rv_tmp rfl) (fl_big (by omega)) en
    · refine tri_reg mixed hcx ?_ _ _
      refine mv rfl ?_
      refine mv rfl ?_
      refine ng (-(((nbits N : Nat) : Int) - 54)) rfl rfl (by omega) ?_
      refine mxb (((54 - 0 - nbits N : Nat) : Int)) rfl rfl (by omega) ?_
      refine ca rfl (h := nat_Shl_long (n := 54 - 0 - nbits N) hN (by omega) (by omega) (by omega) (by omega)) (hn := ?_)
      refine mv rfl ?_
      refine ex rfl rfl ?_
      refine ex rfl rfl ?_
      refine asg rfl ?_
      refine asg rfl ?_
      refine ⟨by kernel_rfl, ?_⟩
      refine nx (sl 0 rfl (sl 1 rfl (sl 6 rfl (sl 7 rfl sn)))) en ?_
      refine tri_seq ?_
      refine tri_reg mixed hcx ?_ _ _
      refine mv rfl ?_
      refine mv rfl ?_
      refine mxb (((nbits N + 0 - 54 : Nat) : Int)) rfl rfl (by omega) ?_
      refine ca rfl (h := nat_Shl (N := 1) (n := nbits N + 0 - 54) (by decide) (by omega) (by rw [one_bits]; omega)) (hn := ?_)
      refine mv rfl ?_
      refine ex rfl rfl ?_
      refine ex rfl rfl ?_
      refine asg rfl ?_
      refine asg rfl ?_
      refine ⟨by kernel_rfl, ?_⟩
      refine nx (sl 0 rfl (sl 1 rfl (sl 6 rfl (sl 7 rfl (sl 9 rfl sn))))) en ?_
      refine tri_seq ?_
      refine tri_seq ?_
      refine tri_reg mixed hcx ?_ _ _
      refine mv rfl ?_
      refine cgt rfl rfl (decide_eq_true (by omega)) ?_
      refine ⟨by kernel_rfl, ?_⟩
      refine nx (sl 0 rfl (sl 1 rfl (sl 6 rfl (sl 7 rfl (sl 9 rfl (sl 41 rfl sn)))))) en ?_
      refine tri_true rfl rfl ?_
      refine tri_seq ?_
      refine tri_reg mixed hcx ?_ _ _
      refine asg rfl ?_
      refine asg rfl ?_
      refine ⟨by kernel_rfl, ?_⟩
      refine nx (sl 4 rfl (sl 5 rfl sn)) en ?_
      refine tri_ret ?_
      repeat (first | refine pn_thenr ?_ | refine pn_blkr ?_)
      exact ret2 hcx rfl (rv_tmp rfl) (rv_tmp rfl) (fl_big (by omega)) en
    · refine tri_reg mixed hcx ?_ _ _
      refine mv rfl ?_
      refine mv rfl ?_
      refine ng (-(((nbits N : Nat) : Int) - 54)) rfl rfl (by omega) ?_
      refine mxb (((54 - 0 - nbits N : Nat) : Int)) rfl rfl (by omega) ?_
      refine ca rfl (h := nat_Shl_long (n := 54 - 0 - nbits N) hN (by omega) (by omega) (by omega) (by omega)) (hn := ?_)
      refine mv rfl ?_
      refine ex rfl rfl ?_
      refine ex rfl rfl ?_
      refine asg rfl ?_
      refine asg rfl ?_
      refine ⟨by kernel_rfl, ?_⟩
      refine nx (sl 0 rfl (sl 1 rfl (sl 6 rfl (sl 7 rfl sn)))) en ?_
      refine tri_seq ?_
      refine tri_reg mixed hcx ?_ _ _
      refine mv rfl ?_
      refine mv rfl ?_
      refine mxb (((nbits N + 0 - 54 : Nat) : Int)) rfl rfl (by omega) ?_
      refine ca rfl (h := nat_Shl_long (N := 1) (n := nbits N + 0 - 54) (by decide) (by omega) (by omega) (by rw [one_bits]; omega) (by rw [one_bits]; omega)) (hn := ?_)
      refine mv rfl ?_
      refine ex rfl rfl ?_
      refine ex rfl rfl ?_
      refine asg rfl ?_
      refine asg rfl ?_
      refine ⟨by kernel_rfl, ?_⟩
      refine nx (sl 0 rfl (sl 1 rfl (sl 6 rfl (sl 7 rfl (sl 9 rfl sn))))) en ?_
      refine tri_seq ?_
      refine tri_seq ?_
      refine tri_reg mixed hcx ?_ _ _
      refine mv rfl ?_
      refine cgt rfl rfl (decide_eq_true (by omega)) ?_
      refine ⟨by kernel_rfl, ?_⟩
      refine nx (sl 0 rfl (sl 1 rfl (sl 6 rfl (sl 7 rfl (sl 9 rfl (sl 41 rfl sn)))))) en ?_
      refine tri_true rfl rfl ?_
      refine tri_seq ?_
      refine tri_reg mixed hcx ?_ _ _
      refine asg rfl ?_
      refine asg rfl ?_
      refine ⟨by kernel_rfl, ?_⟩
      refine nx (sl 4 rfl (sl 5 rfl sn)) en ?_
      refine tri_ret ?_
      repeat (first | refine pn_thenr ?_ | refine pn_blkr ?_)
      exact ret2 hcx rfl (rv_tmp rfl) (rv_tmp rfl) (fl_big (by omega)) en
  · subst h0
    refine tri_reg mixed hcx ?_ _ _
    refine mv rfl ?_
    refine mxb (((nbits N : Nat) : Int) - 53) rfl rfl (by omega) ?_
    refine asg rfl ?_
    refine ⟨by kernel_rfl, ?_⟩
    refine nx (sl 0 rfl (sl 1 rfl (sl 6 rfl sn))) en ?_
    refine tri_seq ?_
    rcases (show nbits N + 1 ≤ 2054 ∨ (2054 < nbits N + 1 ∧ nbits N ≤ 1048576) ∨ (1048576 < nbits N ∧ nbits N + 1 ≤ 1048629) ∨ (1048629 < nbits N + 1) by omega) with h5 | ⟨h5, h6⟩ | ⟨h5, h6⟩ | h5
    · refine tri_reg mixed hcx ?_ _ _
      refine mv rfl ?_
      refine mv rfl ?_
      refine ng (-(((nbits N : Nat) : Int) - 53)) rfl rfl (by omega) ?_
      refine mxb (((54 - 1 - nbits N : Nat) : Int)) rfl rfl (by omega) ?_
      refine ca rfl (h := nat_Shl (n := 54 - 1 - nbits N) hN (by omega) (by omega)) (hn := ?_)
      refine mv rfl ?_
      refine ex rfl rfl ?_
      refine ex rfl rfl ?_
      refine asg rfl ?_
      refine asg rfl ?_
      refine ⟨by kernel_rfl, ?_⟩
      refine nx (sl 0 rfl (sl 1 rfl (sl 6 rfl (sl 7 rfl sn)))) en ?_
      refine tri_seq ?_
      refine tri_reg mixed hcx ?_ _ _
      refine mv rfl ?_
      refine mv rfl ?_
      refine mxb (((nbits N + 1 - 54 : Nat) : Int)) rfl rfl (by omega) ?_
      refine ca rfl (h := nat_Shl (N := 1) (n := nbits N + 1 - 54) (by decide) (by omega) (by rw [one_bits]; omega)) (hn := ?_)
      refine mv rfl ?_
      refine ex rfl rfl ?_
      refine ex rfl rfl ?_
      refine asg rfl ?_
      refine asg rfl ?_
      refine ⟨by kernel_rfl, ?_⟩
      refine nx (sl 0 rfl (sl 1 rfl (sl 6 rfl (sl 7 rfl (sl 9 rfl sn))))) en ?_
      refine tri_seq ?_
      refine tri_seq ?_
      refine tri_reg mixed hcx ?_ _ _
      refine mv rfl ?_
      refine cgt rfl rfl (decide_eq_false (by omega)) ?_
      refine ⟨by kernel_rfl, ?_⟩
      refine nx (sl 0 rfl (sl 1 rfl (sl 6 rfl (sl 7 rfl (sl 9 rfl (sl 41 rfl sn)))))) en ?_
      refine tri_false rfl rfl ?_
      refine tri_skip ?_
      refine nx (sl 0 rfl (sl 1 rfl (sl 6 rfl (sl 7 rfl (sl 9 rfl sn))))) en ?_
      refine tri_seq ?_
      refine tri_reg mixed hcx ?_ _ _
      refine mv rfl ?_
      refine mv rfl ?_
      refine ca rfl (h := iv_div (i := 1) (N := N) (by have := shl_len N (54 - 1 - nbits N); omega) (by have := shl_len 1 (nbits N + 1 - 54); rw [one_bits] at this; omega)) (hn := ?_)
      refine mv rfl ?_
      refine ex rfl rfl ?_
      refine ex rfl rfl ?_
      refine ex rfl rfl ?_
      refine asg rfl ?_
      refine asg rfl ?_
      refine asg rfl ?_
      refine ⟨by kernel_rfl, ?_⟩
      refine nx (sl 0 rfl (sl 1 rfl (sl 6 rfl (sl 11 rfl (sl 12 rfl sn))))) en ?_
      refine tri_seq ?_
      refine tri_seq ?_
      refine tri_reg mixed hcx ?_ _ _
      refine mv rfl ?_
      refine ca rfl (h := nat_Bits (by omega)) (hn := ?_)
      refine cgt rfl rfl (decide_eq_false (by omega)) ?_
      refine ⟨by kernel_rfl, ?_⟩
      refine nx (sl 0 rfl (sl 1 rfl (sl 6 rfl (sl 11 rfl (sl 12 rfl (sl 51 rfl sn)))))) en ?_
      refine tri_false rfl rfl ?_
      refine tri_skip ?_
      refine nx (sl 6 rfl (sl 11 rfl (sl 12 rfl sn))) en ?_
      refine tri_seq ?_
      refine tri_as 11 (Z := T.l cU [((qN 1 N % 4294967296 : Nat) : Int), ((qN 1 N / 4294967296 : Nat) : Int)]) rfl (.of (by rw [dig_two (by omega) (by omega)])) ?_
      refine tri_reg mixed hcx ?_ _ _
      refine asg rfl ?_
      refine ⟨by kernel_rfl, ?_⟩
      refine nx (sl 6 rfl (sl 11 rfl (sl 12 rfl (sl 14 rfl sn)))) en ?_
      refine tri_seq ?_
      refine tri_seq ?_
      refine tri_reg mixed hcx ?_ _ _
      refine mv rfl ?_
      refine ln slLs rfl ?_
      refine sb (((2 : Nat) : Int) - 1) rfl rfl rfl ⟨rfl, by omega, by omega⟩ ?_
      refine asg rfl ?_
      refine ⟨by kernel_rfl, ?_⟩
      refine nx (sl 6 rfl (sl 11 rfl (sl 12 rfl (sl 14 rfl (sl 15 rfl sn))))) en ?_
      refine tri_block ?_
      refine tri_loop (ι := Nat) (fun j => [(6, T.c (.int .i64 (((nbits N : Nat) : Int) - 53))), (11, T.l cU [((qN 1 N % 4294967296 : Nat) : Int), ((qN 1 N / 4294967296 : Nat) : Int)]), (12, T.l cU (dig (rN 1 N))), (14, T.c (.int .u64 ((mm (qN 1 N) j : Nat) : Int))), (15, T.c (.int .i64 (((j : Nat) : Int) - 1)))]) (fun j => []) (fun j => j) (fun j => (j ≤ 2)) 2 (by omega) (sl 6 rfl (sl 11 rfl (sl 12 rfl (sw 14 rfl (ci rfl) (sw 15 rfl (ci (by show (2 : Int) - 1 = _; omega)) sn))))) en ?_
      rintro j hj
      refine tri_sub (sl 6 rfl (sl 11 rfl (sl 12 rfl (sl 14 rfl (sl 15 rfl sn))))) en ?_
      refine tri_seq ?_
      refine tri_seq ?_
      rcases (show j = 0 ∨ j = 1 ∨ j = 2 by omega) with h0 | h0 | h0
      · subst h0
        refine tri_reg mixed hcx ?_ _ _
        refine mv rfl ?_
        refine cge rfl rfl (decide_eq_false (by omega)) ?_
        refine ⟨by kernel_rfl, ?_⟩
        refine nx (sl 6 rfl (sl 11 rfl (sl 12 rfl (sl 14 rfl (sl 15 rfl (sl 58 rfl sn)))))) en ?_
        refine tri_false rfl rfl ?_
        refine tri_exit ?_
        repeat (first | refine pn_then ?_ | refine pn_oth (by decide) ?_)
        refine pn_ex ?_
        refine tri_as 14 (Z := T.c (.int .u64 ((qN 1 N : Nat) : Int))) rfl (ci rfl) ?_
        refine nx (sl 6 rfl (sl 12 rfl (sl 14 rfl sn))) en ?_
        refine tri_seq ?_
        rcases Nat.lt_or_ge 1024 (nbits N) with h7 | h7
        · refine tri_reg mixed hcx ?_ _ _
          refine mv rfl ?_
          refine cvf (wd 1075 (qN 1 N)) rfl cvfU (f64_of hq1.1 hq1.2) ?_
          refine mv rfl ?_
          refine caf rfl (h := c_Ldexp_inf hq1.1 hq1.2 (by omega) (by omega)) (hn := ?_)
          refine asg rfl ?_
          refine ⟨by kernel_rfl, ?_⟩
          refine nx (sl 12 rfl (sl 16 rfl sn)) en ?_
          refine tri_seq ?_
          refine tri_seq ?_
          refine tri_reg mixed hcx ?_ _ _
          refine mv rfl ?_
          refine caf rfl (h := (fn_out c_IsInf1 (.of (by rw [inf_one])))) (hn := ?_)
          refine ⟨by kernel_rfl, ?_⟩
          refine nx (sl 12 rfl (sl 16 rfl (sl 74 rfl sn))) en ?_
          refine tri_true rfl rfl ?_
          refine tri_seq ?_
          refine tri_reg mixed hcx ?_ _ _
          refine asg rfl ?_
          refine asg rfl ?_
          refine ⟨by kernel_rfl, ?_⟩
          refine nx (sl 4 rfl (sl 5 rfl sn)) en ?_
          refine tri_ret ?_
          repeat (first | refine pn_thenr ?_ | refine pn_blkr ?_)
          exact ret2 hcx rfl (rv_tmp rfl) (rv_tmp rfl) (fl_big (by omega)) en
        · have hE : (((nbits N : Nat) : Int) - 53 + 1075).toNat = nbits N + 1022 := by omega
          refine tri_reg mixed hcx ?_ _ _
          refine mv rfl ?_
          refine cvf (wd 1075 (qN 1 N)) rfl cvfU (f64_of hq1.1 hq1.2) ?_
          refine mv rfl ?_
          refine caf rfl (h := c_Ldexp hq1.1 hq1.2 (by omega) (by omega)) (hn := ?_)
          refine asg rfl ?_
          refine ⟨by kernel_rfl, ?_⟩
          refine nx (sl 12 rfl (sl 16 rfl sn)) en ?_
          refine tri_seq ?_
          refine tri_seq ?_
          refine tri_reg mixed hcx ?_ _ _
          refine mv rfl ?_
          refine caf rfl (h := (fn_out c_IsInf1 (.of (by rw [wd_i' (by omega) hq1.2])))) (hn := ?_)
          refine ⟨by kernel_rfl, ?_⟩
          refine nx (sl 12 rfl (sl 16 rfl (sl 74 rfl sn))) en ?_
          refine tri_false rfl rfl ?_
          refine tri_skip ?_
          refine nx (sl 12 rfl (sl 16 rfl sn)) en ?_
          refine tri_seq ?_
          refine tri_reg mixed hcx ?_ _ _
          refine mv rfl ?_
          refine mv rfl ?_
          refine ln slLs rfl ?_
          refine ceq rfl rfl rfl ?_
          refine asg rfl ?_
          refine asg rfl ?_
          refine ⟨by kernel_rfl, ?_⟩
          refine nx (sl 4 rfl (sl 5 rfl sn)) en ?_
          refine tri_ret ?_
          repeat (first | refine pn_thenr ?_ | refine pn_blkr ?_)
          exact ret2 hcx rfl (rv_tmp rfl) (rv_tmp rfl) (tup_le ⟨f_eq (by rw [flw_fit (by omega), hE]), .of (by rw [flx_fit (by omega), ← dig_nil]), trivial⟩) en
      · subst h0
        refine tri_as 15 (Z := T.c (.int .i64 ((0 : Nat) : Int))) rfl (ci (by omega)) ?_
        refine tri_as 14 (Z := T.c (.int .u64 ((qN 1 N / 4294967296 : Nat) : Int))) rfl (ci rfl) ?_
        refine tri_reg mixed hcx ?_ _ _
        refine mv rfl ?_
        refine cge rfl rfl (decide_eq_true (by omega)) ?_
        refine ⟨by kernel_rfl, ?_⟩
        refine nx (sl 6 rfl (sl 11 rfl (sl 12 rfl (sl 14 rfl (sl 15 rfl (sl 58 rfl sn)))))) en ?_
        refine tri_true rfl rfl ?_
        refine tri_skip ?_
        refine nx (sl 6 rfl (sl 11 rfl (sl 12 rfl (sl 14 rfl (sl 15 rfl sn))))) en ?_
        refine tri_seq ?_
        refine tri_block ?_
        refine tri_reg mixed hcx ?_ _ _
        refine mv rfl ?_
        refine shL (s := 32) (((qN 1 N / 4294967296 * 4294967296 : Nat) : Int)) rfl rfl rfl rfl ⟨by omega, by omega, by omega, by decide⟩ ?_
        refine mv rfl ?_
        refine mv rfl ?_
        refine ix rfl rfl slLs ⟨rfl, by simp⟩ ?_
        refine lf rfl tyU32 ?_
        refine cvt (((qN 1 N % 4294967296 : Nat) : Int)) rfl cvU32U64 rfl ⟨rfl, by omega, by omega⟩ ?_
        refine orr (((qN 1 N / 4294967296 * 4294967296 + qN 1 N % 4294967296 : Nat) : Int)) rfl rfl ((mm_step (by omega) (by omega))) ?_
        refine asg rfl ?_
        refine ⟨by kernel_rfl, ?_⟩
        refine pn_blk ?_
        refine nx (sl 6 rfl (sl 11 rfl (sl 12 rfl (sl 14 rfl (sl 15 rfl sn))))) en ?_
        refine tri_reg mixed hcx ?_ _ _
        refine mv rfl ?_
        refine sb (((0 : Nat) : Int) - 1) rfl rfl rfl (by omega) ?_
        refine asg rfl ?_
        refine ⟨by kernel_rfl, ?_⟩
        exact pn_back 0 (by first | omega | (dsimp only; omega)) (by omega) (sl 6 rfl (sl 11 rfl (sl 12 rfl (sw 14 rfl (ci (congrArg (fun z : Nat => (z : Int)) (show qN 1 N / 4294967296 * 4294967296 + qN 1 N % 4294967296 = mm (qN 1 N) 0 by unfold mm; simp; try omega))) (sl 15 rfl sn))))) en
      · subst h0
        refine tri_as 15 (Z := T.c (.int .i64 ((1 : Nat) : Int))) rfl (ci (by omega)) ?_
        refine tri_as 14 (Z := T.c (.int .u64 ((0 : Nat) : Int))) rfl (ci rfl) ?_
        refine tri_reg mixed hcx ?_ _ _
        refine mv rfl ?_
        refine cge rfl rfl (decide_eq_true (by omega)) ?_
        refine ⟨by kernel_rfl, ?_⟩
        refine nx (sl 6 rfl (sl 11 rfl (sl 12 rfl (sl 14 rfl (sl 15 rfl (sl 58 rfl sn)))))) en ?_
        refine tri_true rfl rfl ?_
        refine tri_skip ?_
        refine nx (sl 6 rfl (sl 11 rfl (sl 12 rfl (sl 14 rfl (sl 15 rfl sn))))) en ?_
        refine tri_seq ?_
        refine tri_block ?_
        refine tri_reg mixed hcx ?_ _ _
        refine mv rfl ?_
        refine shL (s := 32) (((0 * 4294967296 : Nat) : Int)) rfl rfl rfl rfl ⟨by omega, by omega, by omega, by decide⟩ ?_
        refine mv rfl ?_
        refine mv rfl ?_
        refine ix rfl rfl slLs ⟨rfl, by simp⟩ ?_
        refine lf rfl tyU32 ?_
        refine cvt (((qN 1 N / 4294967296 : Nat) : Int)) rfl cvU32U64 rfl ⟨rfl, by omega, by omega⟩ ?_
        refine orr (((0 * 4294967296 + qN 1 N / 4294967296 : Nat) : Int)) rfl rfl ((mm_step (by omega) (by omega))) ?_
        refine asg rfl ?_
        refine ⟨by kernel_rfl, ?_⟩
        refine pn_blk ?_
        refine nx (sl 6 rfl (sl 11 rfl (sl 12 rfl (sl 14 rfl (sl 15 rfl sn))))) en ?_
        refine tri_reg mixed hcx ?_ _ _
        refine mv rfl ?_
        refine sb (((1 : Nat) : Int) - 1) rfl rfl rfl (by omega) ?_
        refine asg rfl ?_
        refine ⟨by kernel_rfl, ?_⟩
        exact pn_back 1 (by first | omega | (dsimp only; omega)) (by omega) (sl 6 rfl (sl 11 rfl (sl 12 rfl (sw 14 rfl (ci (congrArg (fun z : Nat => (z : Int)) (show 0 * 4294967296 + qN 1 N / 4294967296 = mm (qN 1 N) 1 by unfold mm; simp; try omega))) (sl 15 rfl sn))))) en
    · refine tri_reg mixed hcx ?_ _ _
      refine mv rfl ?_
      refine mv rfl ?_
      refine ng (-(((nbits N : Nat) : Int) - 53)) rfl rfl (by omega) ?_
      refine mxb (((54 - 1 - nbits N : Nat) : Int)) rfl rfl (by omega) ?_
      refine ca rfl (h := nat_Shl (n := 54 - 1 - nbits N) hN (by omega) (by omega)) (hn := ?_)
      refine mv rfl ?_
      refine ex rfl rfl ?_
      refine ex rfl rfl ?_
      refine asg rfl ?_
      refine asg rfl ?_
      refine ⟨by kernel_rfl, ?_⟩
      refine nx (sl 0 rfl (sl 1 rfl (sl 6 rfl (sl 7 rfl sn)))) en ?_
      refine tri_seq ?_
      refine tri_reg mixed hcx ?_ _ _
      refine mv rfl ?_
      refine mv rfl ?_
      refine mxb (((nbits N + 1 - 54 : Nat) : Int)) rfl rfl (by omega) ?_
      refine ca rfl (h := nat_Shl (N := 1) (n := nbits N + 1 - 54) (by decide) (by omega) (by rw [one_bits]; omega)) (hn := ?_)
      refine mv rfl ?_
      refine ex rfl rfl ?_
      refine ex rfl rfl ?_
      refine asg rfl ?_
      refine asg rfl ?_
      refine ⟨by kernel_rfl, ?_⟩
      refine nx (sl 0 rfl (sl 1 rfl (sl 6 rfl (sl 7 rfl (sl 9 rfl sn))))) en ?_
      refine tri_seq ?_
      refine tri_seq ?_
      refine tri_reg mixed hcx ?_ _ _
      refine mv rfl ?_
      refine cgt rfl rfl (decide_eq_true (by omega)) ?_
      refine ⟨by kernel_rfl, ?_⟩
      refine nx (sl 0 rfl (sl 1 rfl (sl 6 rfl (sl 7 rfl (sl 9 rfl (sl 41 rfl sn)))))) en ?_
      refine tri_true rfl rfl ?_
      refine tri_seq ?_
      refine tri_reg mixed hcx ?_ _ _
      refine asg rfl ?_
      refine asg rfl ?_
      refine ⟨by kernel_rfl, ?_⟩
      refine nx (sl 4 rfl (sl 5 rfl sn)) en ?_
      refine tri_ret ?_
      repeat (first | refine pn_thenr ?_ | refine pn_blkr ?_)
      exact ret2 hcx rfl (rv_tmp rfl) (rv_tmp rfl) (fl_big (by omega)) en
    · refine tri_reg mixed hcx ?_ _ _
      refine mv rfl ?_
      refine mv rfl ?_
      refine ng (-(((nbits N : Nat) : Int) - 53)) rfl rfl (by omega) ?_
      refine mxb (((54 - 1 - nbits N : Nat) : Int)) rfl rfl (by omega) ?_
      refine ca rfl (h := nat_Shl_long (n := 54 - 1 - nbits N) hN (by omega) (by omega) (by omega) (by omega)) (hn := ?_)
      refine mv rfl ?_
      refine ex rfl rfl ?_
      refine ex rfl rfl ?_
      refine asg rfl ?_
      refine asg rfl ?_
      refine ⟨by kernel_rfl, ?_⟩
      refine nx (sl 0 rfl (sl 1 rfl (sl 6 rfl (sl 7 rfl sn)))) en ?_
      refine tri_seq ?_
      refine tri_reg mixed hcx ?_ _ _
      refine mv rfl ?_
      refine mv rfl ?_
      refine mxb (((nbits N + 1 - 54 : Nat) : Int)) rfl rfl (by omega) ?_
      refine ca rfl (h := nat_Shl (N := 1) (n := nbits N + 1 - 54) (by decide) (by omega) (by rw [one_bits]; omega)) (hn := ?_)
      refine mv rfl ?_
      refine ex rfl rfl ?_
      refine ex rfl rfl ?_
      refine asg rfl ?_
      refine asg rfl ?_
      refine ⟨by kernel_rfl, ?_⟩
      refine nx (sl 0 rfl (sl 1 rfl (sl 6 rfl (sl 7 rfl (sl 9 rfl sn))))) en ?_
      refine tri_seq ?_
      refine tri_seq ?_
      refine tri_reg mixed hcx ?_ _ _
      refine mv rfl ?_
      refine cgt rfl rfl (decide_eq_true (by omega)) ?_
      refine ⟨by kernel_rfl, ?_⟩
      refine nx (sl 0 rfl (sl 1 rfl (sl 6 rfl (sl 7 rfl (sl 9 rfl (sl 41 rfl sn)))))) en ?_
      refine tri_true rfl rfl ?_
      refine tri_seq ?_
      refine tri_reg mixed hcx ?_ _ _
      refine asg rfl ?_
      refine asg rfl ?_
      refine ⟨by kernel_rfl, ?_⟩
      refine nx (sl 4 rfl (sl 5 rfl sn)) en ?_
      refine tri_ret ?_
      repeat (first | refine pn_thenr ?_ | refine pn_blkr ?_)
      exact ret2 hcx rfl (rv_tmp rfl) (rv_tmp rfl) (fl_big (by omega)) en
    · refine tri_reg mixed hcx ?_ _ _
      refine mv rfl ?_
      refine mv rfl ?_
      refine ng (-(((nbits N : Nat) : Int) - 53)) rfl rfl (by omega) ?_
      refine mxb (((54 - 1 - nbits N : Nat) : Int)) rfl rfl (by omega) ?_
      refine ca rfl (h := nat_Shl_long (n := 54 - 1 - nbits N) hN (by omega) (by omega) (by omega) (by omega)) (hn := ?_)
      refine mv rfl ?_
      refine ex rfl rfl ?_
      refine ex rfl rfl ?_
      refine asg rfl ?_
      refine asg rfl ?_
      refine ⟨by kernel_rfl, ?_⟩
      refine nx (sl 0 rfl (sl 1 rfl (sl 6 rfl (sl 7 rfl sn)))) en ?_
      refine tri_seq ?_
      refine tri_reg mixed hcx ?_ _ _
      refine mv rfl ?_
      refine mv rfl ?_
      refine mxb (((nbits N + 1 - 54 : Nat) : Int)) rfl rfl (by omega) ?_
      refine ca rfl (h := nat_Shl_long (N := 1) (n := nbits N + 1 - 54) (by decide) (by omega) (by omega) (by rw [one_bits]; omega) (by rw [one_bits]; omega)) (hn := ?_)
      refine mv rfl ?_
      refine ex rfl rfl ?_
      refine ex rfl rfl ?_
      refine asg rfl ?_
      refine asg rfl ?_
      refine ⟨by kernel_rfl, ?_⟩
      refine nx (sl 0 rfl (sl 1 rfl (sl 6 rfl (sl 7 rfl (sl 9 rfl sn))))) en ?_
      refine tri_seq ?_
      refine tri_seq ?_
      refine tri_reg mixed hcx ?_ _ _
      refine mv rfl ?_
      refine cgt rfl rfl (decide_eq_true (by omega)) ?_
      refine ⟨by kernel_rfl, ?_⟩
      refine nx (sl 0 rfl (sl 1 rfl (sl 6 rfl (sl 7 rfl (sl 9 rfl (sl 41 rfl sn)))))) en ?_
      refine tri_true rfl rfl ?_
      refine tri_seq ?_
      refine tri_reg mixed hcx ?_ _ _
      refine asg rfl ?_
      refine asg rfl ?_
      refine ⟨by kernel_rfl, ?_⟩
      refine nx (sl 4 rfl (sl 5 rfl sn)) en ?_
      refine tri_ret ?_
      repeat (first | refine pn_thenr ?_ | refine pn_blkr ?_)
      exact ret2 hcx rfl (rv_tmp rfl) (rv_tmp rfl) (fl_big (by omega)) en
end Go.Proofs.Ytlmiadjogdfjkaa.V
