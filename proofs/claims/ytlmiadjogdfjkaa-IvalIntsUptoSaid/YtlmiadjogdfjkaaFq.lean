/- The first 53 digits of a whole number. -/
import Derived.Test.YtlmiadjogdfjkaaKX
set_option linter.unusedVariables false
set_option maxRecDepth 100000
set_option exponentiation.threshold 4000
namespace Go.Proofs.Ytlmiadjogdfjkaa.V
open Go.RowKit Mt Nml
def qN (i N : Nat) : Nat := N * 2 ^ (54 - i - nbits N) / 2 ^ (nbits N + i - 54)
def rN (i N : Nat) : Nat := N * 2 ^ (54 - i - nbits N) % 2 ^ (nbits N + i - 54)
theorem q_rg {i N : Nat} (hN : 0 < N) (hi : i ≤ 1) : 2 ^ (53 - i) ≤ qN i N ∧ qN i N < 2 ^ (54 - i) := by
  have a := pow_le_nbits (n := N) (by omega)
  have b := lt_nbits N
  have c := nbits_pos hN
  unfold qN
  generalize nbits N = n at a b c
  by_cases h : n ≤ 54 - i
  · rw [show n + i - 54 = 0 by omega, Nat.pow_zero, Nat.div_one]
    have e1 : 2 ^ (53 - i) = 2 ^ (n - 1) * 2 ^ (54 - i - n) := by rw [← Nat.pow_add, show n - 1 + (54 - i - n) = 53 - i by omega]
    have e2 : 2 ^ (54 - i) = 2 ^ n * 2 ^ (54 - i - n) := by rw [← Nat.pow_add, show n + (54 - i - n) = 54 - i by omega]
    rw [e1, e2]
    exact ⟨Nat.mul_le_mul_right _ a, Nat.mul_lt_mul_of_pos_right b (Nat.two_pow_pos _)⟩
  · rw [show 54 - i - n = 0 by omega, Nat.pow_zero, Nat.mul_one]
    rw [Nat.le_div_iff_mul_le (Nat.two_pow_pos _), Nat.div_lt_iff_lt_mul (Nat.two_pow_pos _), ← Nat.pow_add, ← Nat.pow_add, show 53 - i + (n + i - 54) = n - 1 by omega, show 54 - i + (n + i - 54) = n by omega]
    exact ⟨a, b⟩
theorem q0_rg {N : Nat} (hN : 0 < N) : 9007199254740992 ≤ qN 0 N ∧ qN 0 N < 18014398509481984 := q_rg (i := 0) hN (by omega)
theorem q1_rg {N : Nat} (hN : 0 < N) : 4503599627370496 ≤ qN 1 N ∧ qN 1 N < 9007199254740992 := q_rg (i := 1) hN (by omega)
theorem q0_bits {N : Nat} (hN : 0 < N) : nbits (qN 0 N) = 54 := nbits_eq (k := 53) (q_rg (i := 0) hN (by omega)).1 (q_rg (i := 0) hN (by omega)).2
theorem q1_bits {N : Nat} (hN : 0 < N) : nbits (qN 1 N) = 53 := nbits_eq (k := 52) (q_rg (i := 1) hN (by omega)).1 (q_rg (i := 1) hN (by omega)).2
theorem lim_bits (N : Nat) : lim N ≤ nbits N / 32 + 1 := lim_le (by
  rw [B_two]
  exact Int.ofNat_lt.2 (Nat.lt_of_lt_of_le (lt_nbits N) (Nat.pow_le_pow_right (by omega) (by omega))))
theorem dig_two {q : Nat} (h1 : 4294967296 ≤ q) (h2 : q < 18446744073709551616) : dig q = [((q % 4294967296 : Nat) : Int), ((q / 4294967296 : Nat) : Int)] := by
  have e1 : dig q = ((q % 4294967296 : Nat) : Int) :: dig (q / 4294967296) := by rw [dig, dif_neg (by omega)]
  have e2 : dig (q / 4294967296) = ((q / 4294967296 % 4294967296 : Nat) : Int) :: dig (q / 4294967296 / 4294967296) := by rw [dig, dif_neg (by omega)]
  have e3 : dig (q / 4294967296 / 4294967296) = [] := by rw [show q / 4294967296 / 4294967296 = 0 by omega, dig, dif_pos rfl]
  rw [e1, e2, e3, show q / 4294967296 % 4294967296 = q / 4294967296 by omega]
/-- What comes: the greatest float not above, and whether it is the number. -/
def flw (N : Nat) : Nat := if 1024 < nbits N then 9218868437227405311 else wd (nbits N + 1022) (qN 1 N)
def flx (N : Nat) : Bool := if 1024 < nbits N then false else decide (rN 1 N = 0)
theorem flw_big {N : Nat} (h : 1024 < nbits N) : flw N = 9218868437227405311 := if_pos h
theorem flx_big {N : Nat} (h : 1024 < nbits N) : flx N = false := if_pos h
theorem flw_fit {N : Nat} (h : ¬ 1024 < nbits N) : flw N = wd (nbits N + 1022) (qN 1 N) := if_neg h
theorem flx_fit {N : Nat} (h : ¬ 1024 < nbits N) : flx N = decide (rN 1 N = 0) := if_neg h
theorem top_F : (T.c (.float .f64 9218868437227405311)).le (T.F (some 9218868437227405311)) := fun β u v k => ⟨9218868437227405311, ⟨by decide, by decide⟩, k⟩
theorem fl_big {N : Nat} (h : 1024 < nbits N) : (T.tup [T.c (.float .f64 9218868437227405311), T.c (.bool false)]).le (T.tup [T.F (some (flw N)), T.c (.bool (flx N))]) := by
  rw [flw_big h, flx_big h]
  exact tup_le ⟨top_F, .refl _, trivial⟩
theorem dig_nil (r : Nat) : decide (((dig r).length : Int) = 0) = decide (r = 0) := decide_eq_decide.2 ⟨dig_len0, fun h => by subst h; rw [dig_zero]; rfl⟩
theorem mm_step {a b : Nat} (ha : a < 2097152) (hb : b < 4294967296) : bits .or .u64 ((a * 4294967296 : Nat) : Int) ((b : Nat) : Int) = ((a * 4294967296 + b : Nat) : Int) := by
  rw [or_u64 32 (by omega) (by omega) (by rw [show (2 : Int) ^ 32 = 4294967296 by decide]; omega) (by omega) (by rw [show (2 : Int) ^ 32 = 4294967296 by decide]; omega) (by omega)]
  omega
end Go.Proofs.Ytlmiadjogdfjkaa.V
