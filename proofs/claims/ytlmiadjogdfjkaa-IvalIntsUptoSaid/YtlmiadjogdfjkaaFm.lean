/- The nearest word to a number: the words beside it hold the number between them. -/
import Derived.Test.YtlmiadjogdfjkaaFl
set_option linter.unusedVariables false
namespace Go.Proofs.Ytlmiadjogdfjkaa.Fl
open Ieee
theorem cut_even (neg : Bool) {m drop : Nat} (h : m ≠ 0) : 2 * (Toward.even.cut neg m drop * 2 ^ drop) ≤ 2 * m + 2 ^ drop ∧ 2 * m ≤ 2 * (Toward.even.cut neg m drop * 2 ^ drop) + 2 ^ drop := by
  unfold Toward.cut
  by_cases hd : drop ≤ m.log2 + 2
  · rw [Nat.min_eq_left hd, Nat.one_shiftLeft]
    have h1 := Nat.div_add_mod m (2 ^ drop)
    have h2 := Nat.mod_lt m (Nat.two_pow_pos drop)
    dsimp only
    generalize hl : m / 2 ^ drop = low at *
    generalize hr : m % 2 ^ drop = rest at *
    generalize 2 ^ drop = gap at *
    rw [Nat.add_mul, Nat.mul_comm low gap]
    generalize gap * low = p at *
    cases hm : (decide (gap < 2 * rest) || (gap == 2 * rest && low % 2 == 1))
    · rw [Bool.or_eq_false_iff] at hm
      have := of_decide_eq_false hm.1
      simp only [Bool.toNat_false, Nat.zero_mul, Nat.add_zero]
      omega
    · rw [Bool.or_eq_true] at hm
      have : gap ≤ 2 * rest := by
        rcases hm with hm | hm
        · have := of_decide_eq_true hm; omega
        · simp only [Bool.and_eq_true, beq_iff_eq] at hm; omega
      simp only [Bool.toNat_true, Nat.one_mul]
      omega
  · have h1 : m < 2 ^ (m.log2 + 1) := Nat.lt_log2_self
    have h2 : 2 ^ (m.log2 + 2) ≤ 2 ^ drop := Nat.pow_le_pow_right (by omega) (by omega)
    have h3 : 2 ^ (m.log2 + 2) = 2 * 2 ^ (m.log2 + 1) := by rw [Nat.pow_succ, Nat.mul_comm]
    rw [Nat.min_eq_right (by omega), Nat.one_shiftLeft]
    have e1 : m / 2 ^ (m.log2 + 2) = 0 := Nat.div_eq_of_lt (by omega)
    have e2 : m % 2 ^ (m.log2 + 2) = m := Nat.mod_eq_of_lt (by omega)
    dsimp only
    rw [e1, e2]
    have e3 : decide (2 ^ (m.log2 + 2) < 2 * m) = false := decide_eq_false (by omega)
    have e4 : (2 ^ (m.log2 + 2) == 2 * m) = false := by rw [beq_eq_false_iff_ne]; omega
    rw [e3, e4]
    simp only [Bool.false_and, Bool.or_false, Bool.toNat_false, Nat.add_zero, Nat.zero_mul, Nat.mul_zero]
    omega
theorem cut_none (neg : Bool) (n : Nat) : Toward.even.cut neg n 0 = n := by
  unfold Toward.cut
  simp [Nat.mod_one]
theorem mag_kept {q kept : Nat} (h : kept ≤ 9007199254740992) (hq : q = 0 ∨ 4503599627370496 ≤ kept) : mag (q * 4503599627370496 + kept) = kept * 2 ^ q := by
  unfold mag
  by_cases h1 : kept < 4503599627370496
  · obtain rfl : q = 0 := by omega
    rw [if_pos (by omega)]; omega
  · rw [if_neg (by omega)]
    by_cases h2 : kept = 9007199254740992
    · subst h2
      rw [show (q * 4503599627370496 + 9007199254740992) % 4503599627370496 = 0 by omega, show (q * 4503599627370496 + 9007199254740992) / 4503599627370496 - 1 = q + 1 by omega, Nat.pow_succ]
      omega
    · rw [show (q * 4503599627370496 + kept) % 4503599627370496 = kept - 4503599627370496 by omega, show (q * 4503599627370496 + kept) / 4503599627370496 - 1 = q by omega, show 4503599627370496 + (kept - 4503599627370496) = kept by omega]
theorem mag_next {q kept : Nat} (h : kept ≤ 9007199254740992) (hq : q = 0 ∨ 4503599627370496 ≤ kept) : (kept + 1) * 2 ^ q ≤ mag (q * 4503599627370496 + kept + 1) := by
  by_cases h2 : kept = 9007199254740992
  · subst h2
    have := @mag_kept (q + 1) 4503599627370497 (by omega) (.inr (by omega))
    rw [show (q + 1) * 4503599627370496 + 4503599627370497 = q * 4503599627370496 + 9007199254740992 + 1 by omega, Nat.pow_succ] at this
    rw [this]
    have := Nat.two_pow_pos q
    generalize 2 ^ q = p at *
    omega
  · have := @mag_kept q (kept + 1) (by omega) (by omega)
    rw [← Nat.add_assoc] at this
    omega
theorem mag_prev {q kept : Nat} (h : kept ≤ 9007199254740992) (hq : q = 0 ∨ 4503599627370496 ≤ kept) (h0 : 0 < kept) : 2 * mag (q * 4503599627370496 + kept - 1) + 2 ^ q ≤ 2 * (kept * 2 ^ q) := by
  have hp := Nat.two_pow_pos q
  by_cases h2 : q = 0 ∨ 4503599627370497 ≤ kept
  · have := @mag_kept q (kept - 1) (by omega) (by omega)
    rw [show q * 4503599627370496 + kept - 1 = q * 4503599627370496 + (kept - 1) by omega, this]
    obtain ⟨k, rfl⟩ : ∃ k, kept = k + 1 := ⟨kept - 1, by omega⟩
    rw [Nat.add_sub_cancel, Nat.add_mul]
    omega
  · obtain ⟨p, rfl⟩ : ∃ p, q = p + 1 := ⟨q - 1, by omega⟩
    have hk : kept = 4503599627370496 := by omega
    subst hk
    have := @mag_kept p 9007199254740991 (by omega) (.inr (by omega))
    rw [show (p + 1) * 4503599627370496 + 4503599627370496 - 1 = p * 4503599627370496 + 9007199254740991 by omega, this, Nat.pow_succ]
    generalize 2 ^ p = r at *
    omega
theorem mag_le {r s : Nat} (h : r ≤ s) : mag r ≤ mag s := by
  rcases Nat.lt_or_eq_of_le h with h | h
  · exact Nat.le_of_lt (mag_lt h)
  · subst h; exact Nat.le_refl _
/-- The nearest word: a rung whose neighbours hold the number between them; exact where nothing is dropped. -/
theorem near_bd (s : Bool) {m : Nat} (h : m ≠ 0) (e : Int) : ∃ U, double.nearest s m e = double.word s (min U INF) ∧ mag (U - 1) * 2 ^ (-(e + 1074)).toNat ≤ m * 2 ^ (e + 1074).toNat ∧ m * 2 ^ (e + 1074).toNat ≤ mag (U + 1) * 2 ^ (-(e + 1074)).toNat ∧
    (m < 9007199254740992 → -1074 ≤ e → mag U = m * 2 ^ (e + 1074).toNat) := by
  have hL1 : 2 ^ m.log2 ≤ m := Nat.log2_self_le h
  have hL2 : m < 2 ^ (m.log2 + 1) := Nat.lt_log2_self
  obtain ⟨L, hL⟩ : ∃ L, L = m.log2 := ⟨_, rfl⟩
  obtain ⟨last, hlast⟩ : ∃ last : Int, last = max (e + (L : Int) - 52) (-1074) := ⟨_, rfl⟩
  have hn : double.nearest s m e = double.word s (min ((last + 1074).toNat * 4503599627370496 + Toward.even.cut s (m <<< (e - last).toNat) (last - e).toNat) INF) := by
    unfold Format.nearest
    rw [if_neg h, d_least, d_bin, d_inf, hlast, hL]
    rfl
  obtain ⟨q, hq⟩ : ∃ q, q = (last + 1074).toNat := ⟨_, rfl⟩
  rw [← hq] at hn
  rw [← hL] at hL1 hL2
  by_cases hc : last ≤ e
  · -- nothing is dropped
    have e1 : (last - e).toNat = 0 := by omega
    obtain ⟨sh, hsh⟩ : ∃ sh, sh = (e - last).toNat := ⟨_, rfl⟩
    rw [e1, cut_none, ← hsh, Nat.shiftLeft_eq] at hn
    have hA : (e + 1074).toNat = sh + q := by omega
    have hB : (-(e + 1074)).toNat = 0 := by omega
    have hk : m * 2 ^ sh ≤ 9007199254740992 := by
      have h1 : m * 2 ^ sh ≤ 2 ^ (L + 1) * 2 ^ sh := Nat.mul_le_mul_right _ (by omega)
      rw [← Nat.pow_add] at h1
      have h2 : 2 ^ (L + 1 + sh) ≤ 2 ^ 53 := Nat.pow_le_pow_right (by omega) (by omega)
      omega
    have hk2 : q = 0 ∨ 4503599627370496 ≤ m * 2 ^ sh := by
      by_cases h3 : q = 0
      · exact .inl h3
      · right
        have h1 : 2 ^ L * 2 ^ sh ≤ m * 2 ^ sh := Nat.mul_le_mul_right _ hL1
        rw [← Nat.pow_add, show L + sh = 52 by omega] at h1
        omega
    have hm := mag_kept hk hk2
    have hv : mag (q * 4503599627370496 + m * 2 ^ sh) = m * 2 ^ (e + 1074).toNat := by rw [hm, hA, Nat.mul_assoc, ← Nat.pow_add]
    refine ⟨_, hn, ?_, ?_, fun _ _ => hv⟩
    · rw [hB, Nat.pow_zero, Nat.mul_one, ← hv]; exact mag_le (Nat.sub_le _ _)
    · rw [hB, Nat.pow_zero, Nat.mul_one, ← hv]; exact mag_le (Nat.le_succ _)
  · obtain ⟨drop, hdrop⟩ : ∃ drop, drop = (last - e).toNat := ⟨_, rfl⟩
    have e1 : (e - last).toNat = 0 := by omega
    rw [e1, ← hdrop, Nat.shiftLeft_zero] at hn
    obtain ⟨c1, c2⟩ := cut_even s h (drop := drop)
    generalize Toward.even.cut s m drop = kept at hn c1 c2
    have hP := Nat.two_pow_pos drop
    have hup : m < 9007199254740992 * 2 ^ drop := by
      have : 2 ^ (L + 1) ≤ 2 ^ (53 + drop) := Nat.pow_le_pow_right (by omega) (by omega)
      rw [Nat.pow_add 2 53 drop, show (2 : Nat) ^ 53 = 9007199254740992 from by decide] at this
      omega
    have hk : kept ≤ 9007199254740992 := by
      refine Nat.le_of_lt_succ (Nat.lt_of_mul_lt_mul_right (a := 2 ^ drop) ?_)
      rw [Nat.succ_mul]
      generalize kept * 2 ^ drop = y at *
      generalize 2 ^ drop = p at *
      omega
    have hk2 : q = 0 ∨ 4503599627370496 ≤ kept := by
      by_cases h3 : q = 0
      · exact .inl h3
      · right
        have h4 : 2 ^ L = 4503599627370496 * 2 ^ drop := by rw [show L = 52 + drop by omega, Nat.pow_add]
        refine Nat.le_of_lt_succ (Nat.lt_of_mul_lt_mul_right (a := 2 ^ drop) ?_)
        rw [Nat.succ_mul kept]
        generalize kept * 2 ^ drop = y at *
        generalize 2 ^ drop = p at *
        omega
    have hm := mag_kept hk hk2
    have hcr : (e + 1074).toNat + drop = q + (-(e + 1074)).toNat := by omega
    have hcm : m * 2 ^ (e + 1074).toNat * 2 ^ drop = m * 2 ^ q * 2 ^ (-(e + 1074)).toNat := by rw [Nat.mul_assoc, Nat.mul_assoc, ← Nat.pow_add, ← Nat.pow_add, hcr]
    refine ⟨_, hn, ?_, ?_, fun h1 h2 => ?_⟩
    · refine Nat.le_of_mul_le_mul_right (c := 2 ^ drop) ?_ hP
      rw [hcm, Nat.mul_right_comm]
      refine Nat.mul_le_mul_right _ ?_
      by_cases h0 : kept = 0
      · obtain rfl : q = 0 := by omega
        subst h0
        rw [show mag (0 * 4503599627370496 + 0 - 1) = 0 from by decide]; omega
      · have h5 := mag_prev hk hk2 (by omega)
        have h6 := Nat.mul_le_mul_right (2 ^ drop) h5
        have h7 := Nat.mul_le_mul_right (2 ^ q) c1
        rw [Nat.add_mul] at h6
        have e3 : 2 * (kept * 2 ^ q) * 2 ^ drop = 2 * (kept * 2 ^ drop) * 2 ^ q := by rw [Nat.mul_assoc 2, Nat.mul_assoc 2, Nat.mul_right_comm kept]
        have e4 : (2 * m + 2 ^ drop) * 2 ^ q = 2 * (m * 2 ^ q) + 2 ^ q * 2 ^ drop := by rw [Nat.add_mul, Nat.mul_assoc, Nat.mul_comm (2 ^ drop)]
        rw [e3] at h6
        rw [e4] at h7
        rw [Nat.mul_assoc] at h6
        generalize mag (q * 4503599627370496 + kept - 1) * 2 ^ drop = a1 at *
        generalize 2 ^ q * 2 ^ drop = a2 at *
        generalize 2 * (kept * 2 ^ drop) * 2 ^ q = a3 at *
        generalize m * 2 ^ q = a4 at *
        omega
    · refine Nat.le_of_mul_le_mul_right (c := 2 ^ drop) ?_ hP
      rw [hcm, Nat.mul_right_comm (mag _)]
      refine Nat.mul_le_mul_right _ ?_
      have h5 := Nat.mul_le_mul_right (2 ^ drop) (mag_next hk hk2)
      refine Nat.le_trans ?_ h5
      rw [Nat.mul_right_comm (kept + 1)]
      refine Nat.mul_le_mul_right _ ?_
      rw [Nat.add_mul]
      generalize kept * 2 ^ drop = y at *
      generalize 2 ^ drop = p at *
      omega
    · exfalso
      -- a short number is never cut
      have : 2 ^ L < 2 ^ 53 := by omega
      have := (Nat.pow_lt_pow_iff_right (a := 2) (by omega)).1 this
      omega
end Go.Proofs.Ytlmiadjogdfjkaa.Fl
