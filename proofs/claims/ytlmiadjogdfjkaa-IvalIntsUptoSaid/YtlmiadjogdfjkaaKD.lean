/- Shifts of whole numbers. -/
import Derived.Test.YtlmiadjogdfjkaaKC
set_option linter.unusedVariables false
set_option linter.unusedSimpArgs false
set_option maxRecDepth 100000
namespace Go.Proofs.Ytlmiadjogdfjkaa.V
open Go.RowKit Mt Nml
theorem zi_Shift_up {z : Int} {n k : Nat} (hn : n ≤ 65536) (hk : k ≤ 1099511627776) : Fn Try.prog 54 [T.Zi z k, T.c (.int .i64 (n : Int))] [] [] [] (T.tup [T.Z (z * ((2 ^ n : Nat) : Int)) (k + (n / 32 + 1)), T.c (.int .i64 0)]) := by
  refine fn_of Try.func54 rfl (by show 2 ≤ 34; decide) fun cx hcx => ?_
  refine tri_sub (sl 0 rfl (sl 1 rfl sn)) en ?_
  have hq2 : (T.st [T.c (.bool false), T.l cU (dig (2 ^ n))]).le (T.Zi ((2 ^ n : Nat) : Int) (n / 32 + 1)) := zi_of (dig_lim _) (by show _ = iv false (val (dig _)); rw [dig_val]; rfl) (two_limb n)
  refine tri_seq ?_
  refine tri_reg mixed hcx ?_ _ _
  refine bx 10 rfl ?_
  refine nw 11 zeZ ?_
  refine asg rfl ?_
  refine ⟨by kernel_rfl, ?_⟩
  refine nx (sl 1 rfl (sl 2 rfl (sl 4 rfl sn))) (el 10 rfl (el 11 rfl en)) ?_
  refine tri_seq ?_
  refine tri_seq ?_
  refine tri_reg mixed hcx ?_ _ _
  refine mv rfl ?_
  refine cgt rfl rfl (decide_eq_false (by omega)) ?_
  refine mv rfl ?_
  refine mv rfl ?_ (hg := gd1)
  refine clt rfl rfl (decide_eq_false (by omega)) ?_ (hg := gd1)
  refine pk rfl rfl ?_
  refine ⟨by kernel_rfl, ?_⟩
  refine nx (sl 1 rfl (sl 2 rfl (sl 4 rfl (sl 14 rfl sn)))) (el 10 rfl (el 11 rfl en)) ?_
  refine tri_false rfl rfl ?_
  refine tri_skip ?_
  refine nx (sl 1 rfl (sl 2 rfl (sl 4 rfl sn))) (el 10 rfl (el 11 rfl en)) ?_
  refine tri_seq ?_
  refine tri_seq ?_
  refine tri_reg mixed hcx ?_ _ _
  refine mv rfl ?_
  refine cge rfl rfl (decide_eq_true (by omega)) ?_
  refine ⟨by kernel_rfl, ?_⟩
  refine nx (sl 1 rfl (sl 2 rfl (sl 4 rfl (sl 17 rfl sn)))) (el 10 rfl (el 11 rfl en)) ?_
  refine tri_true rfl rfl ?_
  refine tri_seq ?_
  refine tri_reg mixed hcx ?_ _ _
  refine ld rfl rfl tyZ rfl ?_
  refine mv rfl ?_
  refine ca rfl (h := zi_two (by omega)) (hn := ?_)
  refine bu stZ rfl ?_
  refine ca rfl (h := zi_Mul (by omega) (by omega)) (hn := ?_)
  refine st rfl rfl rfl tyZ rfl ?_
  refine asg rfl ?_
  refine ⟨by kernel_rfl, ?_⟩
  refine nx (sl 4 rfl (sl 5 rfl sn)) (el 10 rfl (el 11 rfl en)) ?_
  refine tri_ret ?_
  repeat (first | refine pn_thenr ?_ | refine pn_blkr ?_)
  exact ret2 hcx rfl (rv_cell (c' := cx) (n := 0) rfl rfl tyZ rfl) (rv_tmp rfl) (.refl _) en

theorem zi_Shift_down {z : Int} {n k : Nat} (h0 : 0 < n) (hn : n ≤ 65536) (hk : k ≤ 1099511627776) : Fn Try.prog 54 [T.Zi z k, T.c (.int .i64 (-(n : Int)))] [] [] [] (T.tup [T.Z (Int.fdiv z ((2 ^ n : Nat) : Int)) (k + 3), T.c (.int .i64 0)]) := by
  refine fn_of Try.func54 rfl (by show 2 ≤ 34; decide) fun cx hcx => ?_
  refine tri_sub (sl 0 rfl (sl 1 rfl sn)) en ?_
  have hq2 : (T.st [T.c (.bool false), T.l cU (dig (2 ^ n))]).le (T.Zi ((2 ^ n : Nat) : Int) (n / 32 + 1)) := zi_of (dig_lim _) (by show _ = iv false (val (dig _)); rw [dig_val]; rfl) (two_limb n)
  have hn0 : ((2 ^ n : Nat) : Int) ≠ 0 := Int.ne_of_gt (Int.ofNat_lt.2 (Nat.two_pow_pos n))
  refine tri_seq ?_
  refine tri_reg mixed hcx ?_ _ _
  refine bx 10 rfl ?_
  refine nw 11 zeZ ?_
  refine asg rfl ?_
  refine ⟨by kernel_rfl, ?_⟩
  refine nx (sl 1 rfl (sl 2 rfl (sl 4 rfl sn))) (el 10 rfl (el 11 rfl (el 11 rfl en))) ?_
  refine tri_seq ?_
  refine tri_seq ?_
  refine tri_reg mixed hcx ?_ _ _
  refine mv rfl ?_
  refine cgt rfl rfl (decide_eq_false (by omega)) ?_
  refine mv rfl ?_
  refine mv rfl ?_ (hg := gd1)
  refine clt rfl rfl (decide_eq_false (by omega)) ?_ (hg := gd1)
  refine pk rfl rfl ?_
  refine ⟨by kernel_rfl, ?_⟩
  refine nx (sl 1 rfl (sl 2 rfl (sl 4 rfl (sl 14 rfl sn)))) (el 10 rfl (el 11 rfl (el 11 rfl en))) ?_
  refine tri_false rfl rfl ?_
  refine tri_skip ?_
  refine nx (sl 1 rfl (sl 2 rfl (sl 4 rfl sn))) (el 10 rfl (el 11 rfl (el 11 rfl en))) ?_
  refine tri_seq ?_
  refine tri_seq ?_
  refine tri_reg mixed hcx ?_ _ _
  refine mv rfl ?_
  refine cge rfl rfl (decide_eq_false (by omega)) ?_
  refine ⟨by kernel_rfl, ?_⟩
  refine nx (sl 1 rfl (sl 2 rfl (sl 4 rfl (sl 17 rfl sn)))) (el 10 rfl (el 11 rfl (el 11 rfl en))) ?_
  refine tri_false rfl rfl ?_
  refine tri_skip ?_
  refine nx (sl 1 rfl (sl 2 rfl (sl 4 rfl sn))) (el 10 rfl (el 11 rfl (el 11 rfl en))) ?_
  refine tri_seq ?_
  refine tri_reg mixed hcx ?_ _ _
  refine ld rfl rfl tyZ rfl ?_
  refine mv rfl ?_
  refine ng ((n : Int)) rfl rfl (by omega) ?_
  refine ca rfl (h := zi_two (by omega)) (hn := ?_)
  refine bu stZ rfl ?_
  refine ca rfl (h := zi_Floor (by assumption) (by omega) (by omega)) (hn := ?_)
  refine mv rfl ?_
  refine ex rfl rfl ?_
  refine ex rfl rfl ?_
  refine ex rfl rfl ?_
  refine nw 520 zeZ ?_
  refine nw 521 zeZ ?_
  refine st rfl rfl rfl tyZ rfl ?_
  refine st rfl rfl rfl tyZ rfl ?_
  refine asg rfl ?_
  refine ⟨by kernel_rfl, ?_⟩
  refine nx (sl 4 rfl (sl 6 rfl sn)) (el 10 rfl (el 11 rfl (el 11 rfl (el 520 rfl (el 521 rfl en))))) ?_
  refine tri_seq ?_
  refine tri_reg mixed hcx ?_ _ _
  refine ld rfl rfl tyZ rfl ?_
  refine st rfl rfl rfl tyZ rfl ?_
  refine asg rfl ?_
  refine ⟨by kernel_rfl, ?_⟩
  refine nx (sl 4 rfl (sl 5 rfl sn)) (el 10 rfl (el 11 rfl (el 11 rfl (el 520 rfl (el 521 rfl en))))) ?_
  refine tri_ret ?_
  repeat (first | refine pn_thenr ?_ | refine pn_blkr ?_)
  exact ret2 hcx rfl (rv_cell (c' := cx) (n := 0) rfl rfl tyZ rfl) (rv_tmp rfl) (.refl _) en

theorem zi_Shift_out {z y : Int} {k : Nat} (hy : 65536 < y ∨ y < -65536) : Fn Try.prog 54 [T.Zi z k, T.c (.int .i64 y)] [] [] [] (T.tup [T.st [T.c (.bool false), T.c (.slice none 0 0)], T.c (.int .i64 2)]) := by
  refine fn_of Try.func54 rfl (by show 2 ≤ 34; decide) fun cx hcx => ?_
  refine tri_sub (sl 0 rfl (sl 1 rfl sn)) en ?_
  refine tri_seq ?_
  refine tri_reg mixed hcx ?_ _ _
  refine bx 10 rfl ?_
  refine nw 11 zeZ ?_
  refine asg rfl ?_
  refine ⟨by kernel_rfl, ?_⟩
  refine nx (sl 1 rfl (sl 2 rfl (sl 4 rfl sn))) (el 10 rfl (el 11 rfl (el 11 rfl (el 11 rfl en)))) ?_
  refine tri_seq ?_
  refine tri_seq ?_
  rcases Int.lt_or_le 65536 y with h | h
  · refine tri_reg mixed hcx ?_ _ _
    refine mv rfl ?_
    refine cgt rfl rfl (decide_eq_true (by omega)) ?_
    refine mv rfl ?_
    refine j_off rfl rfl rfl rfl ?_
    refine j_off rfl rfl rfl rfl ?_
    refine pk rfl rfl ?_
    refine ⟨by kernel_rfl, ?_⟩
    refine nx (sl 1 rfl (sl 2 rfl (sl 4 rfl (sl 14 rfl sn)))) (el 10 rfl (el 11 rfl (el 11 rfl (el 11 rfl en)))) ?_
    refine tri_true rfl rfl ?_
    refine tri_seq ?_
    refine tri_reg mixed hcx ?_ _ _
    refine bu stZ rfl ?_
    refine st rfl rfl rfl tyZ rfl ?_
    refine asg rfl ?_
    refine ⟨by kernel_rfl, ?_⟩
    refine nx (sl 4 rfl (sl 5 rfl sn)) (el 10 rfl (el 11 rfl (el 11 rfl (el 11 rfl en)))) ?_
    refine tri_ret ?_
    repeat (first | refine pn_thenr ?_ | refine pn_blkr ?_)
    exact ret2 hcx rfl (rv_cell (c' := cx) (n := 0) rfl rfl tyZ rfl) (rv_tmp rfl) (.refl _) en
  · refine tri_reg mixed hcx ?_ _ _
    refine mv rfl ?_
    refine cgt rfl rfl (decide_eq_false (by omega)) ?_
    refine mv rfl ?_
    refine mv rfl ?_ (hg := gd1)
    refine clt rfl rfl (decide_eq_true (by omega)) ?_ (hg := gd1)
    refine pk rfl rfl ?_
    refine ⟨by kernel_rfl, ?_⟩
    refine nx (sl 1 rfl (sl 2 rfl (sl 4 rfl (sl 14 rfl sn)))) (el 10 rfl (el 11 rfl (el 11 rfl (el 11 rfl en)))) ?_
    refine tri_true rfl rfl ?_
    refine tri_seq ?_
    refine tri_reg mixed hcx ?_ _ _
    refine bu stZ rfl ?_
    refine st rfl rfl rfl tyZ rfl ?_
    refine asg rfl ?_
    refine ⟨by kernel_rfl, ?_⟩
    refine nx (sl 4 rfl (sl 5 rfl sn)) (el 10 rfl (el 11 rfl (el 11 rfl (el 11 rfl en)))) ?_
    refine tri_ret ?_
    repeat (first | refine pn_thenr ?_ | refine pn_blkr ?_)
    exact ret2 hcx rfl (rv_cell (c' := cx) (n := 0) rfl rfl tyZ rfl) (rv_tmp rfl) (.refl _) en

theorem fl_q {s t : Bool} {M N : Nat} : intv s M - intv (!(s == t)) (M / N) * intv t N = intv s (M % N) := by
  rw [intv_mul, show (!((!(s == t)) == t)) = s from by cases s <;> cases t <;> rfl]
  have e := Nat.div_add_mod M N
  have : intv s M = intv s (M / N * N) + intv s (M % N) := by rw [intv_add, Nat.mul_comm, e]
  omega
end Go.Proofs.Ytlmiadjogdfjkaa.V
