/- Floats as places on a line: what lies between a float's neighbours; sums and products. -/
import Derived.Test.YtlmiadjogdfjkaaKN
import Derived.Test.YtlmiadjogdfjkaaFm
set_option linter.unusedVariables false
set_option maxRecDepth 100000
set_option exponentiation.threshold 4000
namespace Go.Proofs.Ytlmiadjogdfjkaa.V
open Go.RowKit Mt Nml
/-- The unit of the floats. -/
def W1 : Rat := ((2 ^ 1074 : Nat) : Rat)
theorem W1_pos : 0 < W1 := Rat.natCast_pos.2 (Nat.two_pow_pos _)
theorem div_le_W {a b : Rat} (h : a ≤ b) : a / W1 ≤ b / W1 := by
  rw [Rat.div_def, Rat.div_def]
  exact Rat.mul_le_mul_of_nonneg_right h (Rat.le_of_lt (Rat.inv_pos.2 W1_pos))
theorem rat_pos_ne {q : Rat} (h : 0 < q) : q ≠ 0 := fun e => by rw [e] at h; exact absurd h (by decide)
theorem W1_ne : W1 ≠ 0 := rat_pos_ne W1_pos
/-- The number at a place. -/
def kv (k : Int) : Rat := (if k < 0 then -((Fl.mag k.natAbs : Nat) : Rat) else ((Fl.mag k.natAbs : Nat) : Rat)) / W1
theorem kv_pos (n : Nat) : kv (n : Int) = ((Fl.mag n : Nat) : Rat) / W1 := by unfold kv; rw [if_neg (by omega), Int.natAbs_natCast]
theorem kv_neg (n : Nat) : kv (-(n : Int)) = -(((Fl.mag n : Nat) : Rat) / W1) := by
  unfold kv
  rw [Int.natAbs_neg, Int.natAbs_natCast]
  by_cases h : n = 0
  · subst h
    rw [if_neg (by omega), show Fl.mag 0 = 0 from by decide]
    simp [Rat.div_def]
  · rw [if_pos (by omega), Rat.div_def, Rat.div_def, Rat.neg_mul]
theorem kv_zero : kv 0 = 0 := by have := kv_pos 0; rw [show Fl.mag 0 = 0 from by decide] at this; rw [show (0 : Int) = ((0 : Nat) : Int) from rfl, this]; simp [Rat.div_def]
theorem kv_mono {j k : Int} (h : j ≤ k) : kv j ≤ kv k := by
  unfold kv
  refine div_le_W ?_
  have nn : ∀ n : Nat, (0 : Rat) ≤ ((Fl.mag n : Nat) : Rat) := fun n => Rat.natCast_nonneg
  by_cases h1 : j < 0
  · rw [if_pos h1]
    by_cases h2 : k < 0
    · rw [if_pos h2]
      exact Rat.neg_le_neg (Rat.natCast_le_natCast.2 (Fl.mag_le (by omega)))
    · rw [if_neg h2]
      have a := nn j.natAbs
      have b := nn k.natAbs
      grind
  · rw [if_neg h1, if_neg (by omega)]
    exact Rat.natCast_le_natCast.2 (Fl.mag_le (by omega))
/-- At a place or above; at a place or below; beyond all places is anything. -/
def FL (k : Int) (v : Rat) : Prop := k ≤ -9218868437227405312 ∨ (k < 9218868437227405312 ∧ kv k ≤ v)
def FH (k : Int) (v : Rat) : Prop := 9218868437227405312 ≤ k ∨ (-9218868437227405312 < k ∧ v ≤ kv k)
theorem FL.down {j k : Int} {v : Rat} (h : FL k v) (hj : j ≤ k) : FL j v := by
  rcases h with h | ⟨h1, h2⟩
  · exact .inl (by omega)
  · exact .inr ⟨by omega, Rat.le_trans (kv_mono hj) h2⟩
theorem FL.up {k : Int} {v w : Rat} (h : FL k v) (hv : v ≤ w) : FL k w := h.imp id fun ⟨h1, h2⟩ => ⟨h1, Rat.le_trans h2 hv⟩
theorem FH.up {j k : Int} {v : Rat} (h : FH k v) (hj : k ≤ j) : FH j v := by
  rcases h with h | ⟨h1, h2⟩
  · exact .inl (by omega)
  · exact .inr ⟨by omega, Rat.le_trans h2 (kv_mono hj)⟩
theorem FH.down {k : Int} {v w : Rat} (h : FH k v) (hv : w ≤ v) : FH k w := h.imp id fun ⟨h1, h2⟩ => ⟨h1, Rat.le_trans hv h2⟩
theorem key_rg {x : Nat} (h : NumF x) : -9218868437227405312 ≤ Fl.key x ∧ Fl.key x ≤ 9218868437227405312 := by
  have := num_rg h
  rw [Fl.key_of h.1]
  split <;> omega
theorem mag_fmt {b : Nat} (hb : b < 18446744073709551616) (hr : Fl.rung b < 9218868437227405312) : Fl.mag (Fl.rung b) = fmt b * 2 ^ (fex b - 1) := by
  have h1 : Fl.rung b = b % 9223372036854775808 := rfl
  have h2 : fe b = b / 4503599627370496 % 2048 := rfl
  have h3 : fm b = b % 4503599627370496 := rfl
  unfold Fl.mag fmt fex
  by_cases h : fe b = 0
  · rw [if_pos (by omega), if_pos h, if_pos h, Nat.sub_self, Nat.pow_zero, Nat.mul_one]; omega
  · rw [if_neg (by omega), if_neg h, if_neg h, show Fl.rung b % 4503599627370496 = fm b by omega, show Fl.rung b / 4503599627370496 = fe b by omega, Nat.add_comm]
theorem pw_cast (a b : Nat) : ((2 ^ (a + b) : Nat) : Rat) = ((2 ^ a : Nat) : Rat) * ((2 ^ b : Nat) : Rat) := by rw [Nat.pow_add, Rat.natCast_mul]
theorem pw_ne (a : Nat) : ((2 ^ a : Nat) : Rat) ≠ 0 := rat_pos_ne (Rat.natCast_pos.2 (Nat.two_pow_pos a))
/-- What a word says is the number at its place. -/
theorem fq_kv {b : Nat} (hb : b < 18446744073709551616) (hr : Fl.rung b < 9218868437227405312) : fq b = kv (Fl.key b) := by
  have hm := mag_fmt hb hr
  have hx : 1 ≤ fex b := by unfold fex; split <;> omega
  have key : ∀ z : Int, (z = (fmt b : Int) ∨ z = -(fmt b : Int)) → (if 1075 ≤ fex b then ((z * ((2 ^ (fex b - 1075) : Nat) : Int) : Int) : Rat) else ((z : Int) : Rat) / (((2 ^ (1075 - fex b) : Nat) : Int) : Rat)) = ((z * ((2 ^ (fex b - 1) : Nat) : Int) : Int) : Rat) / W1 := fun z _ => by
    unfold W1
    by_cases h : 1075 ≤ fex b
    · rw [if_pos h, Rat.intCast_mul, Rat.intCast_mul, show fex b - 1 = (fex b - 1075) + 1074 by omega]
      have e : (((2 ^ (fex b - 1075 + 1074) : Nat) : Int) : Rat) = ((2 ^ (fex b - 1075) : Nat) : Rat) * ((2 ^ 1074 : Nat) : Rat) := pw_cast _ _
      have e2 : (((2 ^ (fex b - 1075) : Nat) : Int) : Rat) = ((2 ^ (fex b - 1075) : Nat) : Rat) := rfl
      have n1 := pw_ne 1074
      rw [e, e2]
      generalize ((2 ^ 1074 : Nat) : Rat) = p at n1
      generalize ((2 ^ (fex b - 1075) : Nat) : Rat) = q
      generalize (z : Rat) = y
      grind
    · rw [if_neg h, Rat.intCast_mul]
      have e : ((2 ^ 1074 : Nat) : Rat) = ((2 ^ (fex b - 1) : Nat) : Rat) * ((2 ^ (1075 - fex b) : Nat) : Rat) := by rw [← pw_cast, show fex b - 1 + (1075 - fex b) = 1074 by omega]
      have e2 : (((2 ^ (fex b - 1) : Nat) : Int) : Rat) = ((2 ^ (fex b - 1) : Nat) : Rat) := rfl
      have e3 : (((2 ^ (1075 - fex b) : Nat) : Int) : Rat) = ((2 ^ (1075 - fex b) : Nat) : Rat) := rfl
      have n1 := pw_ne (fex b - 1)
      have n2 := pw_ne (1075 - fex b)
      rw [e, e2, e3]
      generalize ((2 ^ (fex b - 1) : Nat) : Rat) = p at n1
      generalize ((2 ^ (1075 - fex b) : Nat) : Rat) = q at n2
      generalize (z : Rat) = y
      grind
  have e4 : ((((fmt b : Nat) : Int) * ((2 ^ (fex b - 1) : Nat) : Int) : Int) : Rat) = ((Fl.mag (Fl.rung b) : Nat) : Rat) := by rw [hm, ← Int.natCast_mul]; rfl
  by_cases hs : b < 9223372036854775808
  · have h1 : fz b = (fmt b : Int) := if_pos hs
    have h2 : Fl.key b = ((Fl.rung b : Nat) : Int) := by rw [Fl.key_of hb, Fl.rung_of hb]; split <;> omega
    rw [h2, kv_pos, ← e4]
    have := key (fz b) (.inl h1)
    rw [h1] at this
    unfold fq
    rw [h1]
    exact this
  · have h1 : fz b = -(fmt b : Int) := if_neg hs
    have h2 : Fl.key b = -((Fl.rung b : Nat) : Int) := by rw [Fl.key_of hb, Fl.rung_of hb]; split <;> omega
    rw [h2, kv_neg, ← e4]
    have := key (fz b) (.inr h1)
    rw [h1] at this
    unfold fq
    rw [h1, this, Int.neg_mul, Rat.intCast_neg, Rat.div_def, Rat.div_def, Rat.neg_mul]
theorem fin_key {x : Nat} (h : NumF x) : oFin (some x) = decide (-9218868437227405312 < Fl.key x ∧ Fl.key x < 9218868437227405312) := by
  refine decide_eq_decide.2 ?_
  have := num_rg h
  rw [Fl.rung_of h.1, Fl.key_of h.1]
  split <;> omega
theorem oq_key {x : Nat} (h : NumF x) (h1 : -9218868437227405312 < Fl.key x) (h2 : Fl.key x < 9218868437227405312) : oq (some x) = kv (Fl.key x) := by
  have hr : Fl.rung x < 9218868437227405312 := by
    have := num_rg h
    rw [Fl.key_of h.1] at h1 h2
    rw [Fl.rung_of h.1]
    split <;> split at h1 <;> omega
  show (if Fl.rung x = 9218868437227405312 then 0 else fq x) = _
  rw [if_neg (by omega)]
  exact fq_kv h.1 hr
theorem fitsL_FL {x : Nat} (h : NumF x) (v : Rat) : fitsL (some x) v = true ↔ FL (Fl.key x) v := by
  have hr := key_rg h
  unfold fitsL FL
  rw [fin_key h]
  by_cases h1 : -9218868437227405312 < Fl.key x ∧ Fl.key x < 9218868437227405312
  · rw [decide_eq_true h1, if_pos rfl, oq_key h h1.1 h1.2, decide_eq_true_iff]
    exact ⟨fun k => .inr ⟨h1.2, k⟩, fun k => by rcases k with k | k; omega; exact k.2⟩
  · rw [decide_eq_false h1, if_neg (by decide)]
    have hx := h.1
    show decide _ = true ↔ _
    rw [decide_eq_true_iff]
    rw [Fl.key_of h.1] at hr h1 ⊢
    constructor
    · intro k; left; split <;> split at h1 <;> omega
    · intro k; rcases k with k | ⟨k, _⟩ <;> split at k <;> split at h1 <;> omega
theorem fitsH_FH {x : Nat} (h : NumF x) (v : Rat) : fitsH (some x) v = true ↔ FH (Fl.key x) v := by
  have hr := key_rg h
  unfold fitsH FH
  rw [fin_key h]
  by_cases h1 : -9218868437227405312 < Fl.key x ∧ Fl.key x < 9218868437227405312
  · rw [decide_eq_true h1, if_pos rfl, oq_key h h1.1 h1.2, decide_eq_true_iff]
    exact ⟨fun k => .inr ⟨h1.1, k⟩, fun k => by rcases k with k | k; omega; exact k.2⟩
  · rw [decide_eq_false h1, if_neg (by decide)]
    have hx := h.1
    show decide _ = true ↔ _
    rw [decide_eq_true_iff]
    rw [Fl.key_of h.1] at hr h1 ⊢
    constructor
    · intro k; left; split <;> split at h1 <;> omega
    · intro k; rcases k with k | ⟨k, _⟩ <;> split at k <;> split at h1 <;> omega
theorem key_up {x : Nat} (h : NumF x) : Fl.key (Fl.up x) = if Fl.key x = 9218868437227405312 then 9218868437227405312 else Fl.key x + 1 := by
  have hr := num_rg h
  have h2 := h.2
  have hb := h.1
  by_cases h1 : x = 9218868437227405312
  · subst h1; decide
  · have e : Fl.up x = if x = 0 ∨ x = 9223372036854775808 then 1 else if x < 9223372036854775808 then x + 1 else x - 1 := by
      unfold Fl.up
      rw [h2]
      exact if_neg (by simp [h1])
    by_cases h3 : x = 0 ∨ x = 9223372036854775808
    · rcases h3 with rfl | rfl <;> decide
    · rw [if_neg h3] at e
      rw [Fl.key_of (Fl.up_lt h.1), Fl.key_of h.1, e]
      by_cases h4 : x < 9223372036854775808
      · rw [if_pos h4, if_neg (by omega), if_neg (by omega : ¬ 9223372036854775808 ≤ x), if_neg (by omega)]; omega
      · rw [if_neg h4, if_pos (by omega : 9223372036854775808 ≤ x), if_pos (by omega)]
        split <;> omega
theorem low_FL {x : Nat} (h : NumF x) {v : Rat} (hv : FL (Fl.key x - 1) v) : fitsL (oLow (some x)) v = true := by
  rw [low_some, dn_some, fitsL_FL (num_dn h)]
  rw [key_ng (num_up (num_ng h)).1, key_up (num_ng h), key_ng h.1]
  have := key_rg h
  split
  · exact .inl (by omega)
  · exact hv.down (by omega)
theorem high_FH {x : Nat} (h : NumF x) {v : Rat} (hv : FH (Fl.key x + 1) v) : fitsH (oHigh (some x)) v = true := by
  rw [high_some]
  show fitsH (some (Fl.up x)) v = true
  rw [fitsH_FH (num_up h), key_up h]
  split
  · exact .inl (by omega)
  · exact hv
/-- m times two to the e. -/
def rvq (m : Nat) (e : Int) : Rat := ((m * 2 ^ e.toNat : Nat) : Rat) / ((2 ^ (-e).toNat : Nat) : Rat)
theorem rat_le_div {M a b : Nat} (h : M * b ≤ a * 2 ^ 1074) (hb : 0 < b) : ((M : Nat) : Rat) / W1 ≤ ((a : Nat) : Rat) / ((b : Nat) : Rat) := by
  have hb' : (0 : Rat) < ((b : Nat) : Rat) := Rat.natCast_pos.2 hb
  have h' : ((M : Nat) : Rat) * ((b : Nat) : Rat) ≤ ((a : Nat) : Rat) * W1 := by unfold W1; rw [← Rat.natCast_mul, ← Rat.natCast_mul]; exact Rat.natCast_le_natCast.2 h
  refine Rat.not_lt.1 fun hlt => ?_
  rw [Rat.div_lt_iff hb', Rat.div_def, Rat.mul_assoc, Rat.mul_comm (W1⁻¹), ← Rat.mul_assoc, ← Rat.div_def, Rat.lt_div_iff W1_pos] at hlt
  exact absurd hlt (Rat.not_lt.2 h')
theorem rat_ge_div {M a b : Nat} (h : a * 2 ^ 1074 ≤ M * b) (hb : 0 < b) : ((a : Nat) : Rat) / ((b : Nat) : Rat) ≤ ((M : Nat) : Rat) / W1 := by
  have hb' : (0 : Rat) < ((b : Nat) : Rat) := Rat.natCast_pos.2 hb
  have h' : ((a : Nat) : Rat) * W1 ≤ ((M : Nat) : Rat) * ((b : Nat) : Rat) := by unfold W1; rw [← Rat.natCast_mul, ← Rat.natCast_mul]; exact Rat.natCast_le_natCast.2 h
  refine Rat.not_lt.1 fun hlt => ?_
  rw [Rat.lt_div_iff hb', Rat.div_def, Rat.mul_assoc, Rat.mul_comm (W1⁻¹), ← Rat.mul_assoc, ← Rat.div_def, Rat.div_lt_iff W1_pos] at hlt
  exact absurd hlt (Rat.not_lt.2 h')
theorem pw_cross (e : Int) : e.toNat + 1074 + (-(e + 1074)).toNat = (e + 1074).toNat + (-e).toNat := by omega
theorem mag_le_rvq {M m : Nat} {e : Int} (h : M * 2 ^ (-(e + 1074)).toNat ≤ m * 2 ^ (e + 1074).toNat) : ((M : Nat) : Rat) / W1 ≤ rvq m e := by
  refine rat_le_div ?_ (Nat.two_pow_pos _)
  refine Nat.le_of_mul_le_mul_right (c := 2 ^ (-(e + 1074)).toNat) ?_ (Nat.two_pow_pos _)
  have := Nat.mul_le_mul_right (2 ^ (-e).toNat) h
  rw [Nat.mul_assoc m, ← Nat.pow_add, ← pw_cross, Nat.pow_add, Nat.pow_add] at this
  rw [Nat.mul_right_comm M, Nat.mul_assoc m, Nat.mul_assoc m]
  exact this
theorem rvq_le_mag {M m : Nat} {e : Int} (h : m * 2 ^ (e + 1074).toNat ≤ M * 2 ^ (-(e + 1074)).toNat) : rvq m e ≤ ((M : Nat) : Rat) / W1 := by
  refine rat_ge_div ?_ (Nat.two_pow_pos _)
  refine Nat.le_of_mul_le_mul_right (c := 2 ^ (-(e + 1074)).toNat) ?_ (Nat.two_pow_pos _)
  have := Nat.mul_le_mul_right (2 ^ (-e).toNat) h
  rw [Nat.mul_assoc m, ← Nat.pow_add, ← pw_cross, Nat.pow_add, Nat.pow_add] at this
  rw [Nat.mul_right_comm M, Nat.mul_assoc m, Nat.mul_assoc m]
  exact this
theorem rvq_nonneg (m : Nat) (e : Int) : 0 ≤ rvq m e := by
  have := @mag_le_rvq 0 m e (by rw [Nat.zero_mul]; exact Nat.zero_le _)
  rwa [show (((0 : Nat) : Rat)) / W1 = 0 from by simp [Rat.div_def]] at this
theorem rvq_zero (e : Int) : rvq 0 e = 0 := by unfold rvq; rw [Nat.zero_mul]; simp [Rat.div_def]
def sgnq (s : Bool) (v : Rat) : Rat := if s then -v else v
theorem key_word {s : Bool} {R : Nat} (h : R ≤ 9218868437227405312) : Fl.key (Ieee.double.word s R) = if s then -(R : Int) else R := by
  unfold Ieee.Format.word
  rw [Fl.d_sw]
  cases s
  · simp only [Bool.false_eq_true, if_false]; rw [Fl.key_of (by omega), if_neg (by omega)]
  · simp only [if_true]; rw [Fl.key_of (by omega), if_pos (by omega)]; omega
theorem num_near (s : Bool) (m : Nat) (e : Int) : NumF (Ieee.double.nearest s m e) := ⟨Ieee.Format.nearest_lt _ _ _ _, near_nn s m e⟩
/-- The nearest word's neighbours hold the number between them. -/
theorem near_between (s : Bool) (m : Nat) (e : Int) : FL (Fl.key (Ieee.double.nearest s m e) - 1) (sgnq s (rvq m e)) ∧ FH (Fl.key (Ieee.double.nearest s m e) + 1) (sgnq s (rvq m e)) := by
  by_cases h : m = 0
  · subst h
    have e0 : Ieee.double.nearest s 0 e = Ieee.double.word s 0 := by unfold Ieee.Format.nearest; rw [if_pos rfl]
    rw [e0, key_word (by omega), rvq_zero]
    have e1 : (if s = true then -((0 : Nat) : Int) else ((0 : Nat) : Int)) = 0 := by cases s <;> rfl
    have e2 : sgnq s 0 = 0 := by cases s <;> simp [sgnq]
    rw [e1, e2]
    exact ⟨.inr ⟨by decide, by have := @kv_mono (-1) 0 (by omega); rwa [kv_zero] at this⟩, .inr ⟨by decide, by have := @kv_mono 0 1 (by omega); rwa [kv_zero] at this⟩⟩
  · obtain ⟨U, h1, h2, h3, _⟩ := Fl.near_bd s h e
    have p2 := mag_le_rvq h2
    have p3 := rvq_le_mag h3
    obtain ⟨R, hR⟩ : ∃ R, R = min U Fl.INF := ⟨_, rfl⟩
    have hI : Fl.INF = 9218868437227405312 := rfl
    rw [← hR] at h1
    rw [h1, key_word (by omega)]
    have lo : 0 < R → kv ((R - 1 : Nat) : Int) ≤ rvq m e := fun _ => by
      rw [kv_pos]
      exact Rat.le_trans (div_le_W (Rat.natCast_le_natCast.2 (Fl.mag_le (by omega)))) p2
    have hi : R < 9218868437227405312 → rvq m e ≤ kv ((R + 1 : Nat) : Int) := fun hl => by
      rw [kv_pos, show R + 1 = U + 1 by omega]
      exact p3
    have hn := rvq_nonneg m e
    cases s
    · simp only [Bool.false_eq_true, if_false, sgnq]
      constructor
      · right
        refine ⟨by omega, ?_⟩
        by_cases h0 : R = 0
        · rw [h0]
          have := @kv_mono (((0 : Nat) : Int) - 1) 0 (by omega)
          rw [kv_zero] at this
          exact Rat.le_trans this hn
        · rw [show (R : Int) - 1 = ((R - 1 : Nat) : Int) by omega]; exact lo (by omega)
      · by_cases h0 : R = 9218868437227405312
        · left; omega
        · right; exact ⟨by omega, hi (by omega)⟩
    · simp only [if_true, sgnq]
      constructor
      · by_cases h0 : R = 9218868437227405312
        · left; omega
        · right
          refine ⟨by omega, ?_⟩
          rw [show -(R : Int) - 1 = -((R + 1 : Nat) : Int) by omega, kv_neg, ← kv_pos]
          exact Rat.neg_le_neg (hi (by omega))
      · right
        refine ⟨by omega, ?_⟩
        by_cases h0 : R = 0
        · rw [h0]
          have := @kv_mono 0 (-((0 : Nat) : Int) + 1) (by omega)
          rw [kv_zero] at this
          exact Rat.le_trans (by grind) this
        · rw [show -(R : Int) + 1 = -((R - 1 : Nat) : Int) by omega, kv_neg, ← kv_pos]
          exact Rat.neg_le_neg (lo (by omega))
theorem rvq_off (t μ : Nat) : rvq t (-1074 + (μ : Int)) = ((t * 2 ^ μ : Nat) : Rat) / W1 := by
  refine Rat.le_antisymm ?_ ?_
  · refine rvq_le_mag ?_
    rw [show (-1074 + (μ : Int) + 1074).toNat = μ by omega, show (-(-1074 + (μ : Int) + 1074)).toNat = 0 by omega]
    omega
  · refine mag_le_rvq ?_
    rw [show (-1074 + (μ : Int) + 1074).toNat = μ by omega, show (-(-1074 + (μ : Int) + 1074)).toNat = 0 by omega]
    omega
/-- A finite word, read. -/
theorem read_kv {x : Nat} (h : NumF x) (h1 : -9218868437227405312 < Fl.key x) (h2 : Fl.key x < 9218868437227405312) : ∃ m i : Nat, Ieee.double.read x = .number (Fl.sgn x) m (-1074 + (i : Int)) ∧ kv (Fl.key x) = sgnq (Fl.sgn x) (((m * 2 ^ i : Nat) : Rat) / W1) := by
  have hr : Fl.rung x < Fl.INF := by
    have := num_rg h
    rw [Fl.key_of h.1] at h1 h2
    rw [Fl.rung_of h.1]
    unfold Fl.INF
    split <;> split at h1 <;> omega
  obtain ⟨m, i, h3, h4⟩ := Fl.read_num hr
  refine ⟨m, i, h3, ?_⟩
  rw [h4]
  have hk : Fl.key x = if Fl.sgn x then -(Fl.rung x : Int) else Fl.rung x := rfl
  rw [hk]
  cases Fl.sgn x
  · simp only [Bool.false_eq_true, if_false, sgnq]; exact kv_pos _
  · simp only [if_true, sgnq]; exact kv_neg _
def sgi (s : Bool) (z : Int) : Int := if s then -z else z
open Ieee in
theorem sum_kv {s t : Bool} {m n i j : Nat} {d : Datum} (h : (Datum.number s m (-1074 + (i : Int))).sum (Datum.number t n (-1074 + (j : Int))) = some d) : ∃ S T e, d = .number S T e ∧ sgnq S (rvq T e) = sgnq s (((m * 2 ^ i : Nat) : Rat) / W1) + sgnq t (((n * 2 ^ j : Nat) : Rat) / W1) := by
  simp only [Datum.sum, Option.some.injEq] at h
  have e1 : (-1074 + (i : Int) - min (-1074 + (i : Int)) (-1074 + (j : Int))).toNat = i - min i j := by omega
  have e2 : (-1074 + (j : Int) - min (-1074 + (i : Int)) (-1074 + (j : Int))).toNat = j - min i j := by omega
  rw [e1, e2, show min (-1074 + (i : Int)) (-1074 + (j : Int)) = -1074 + ((min i j : Nat) : Int) by omega] at h
  refine ⟨_, _, _, h.symm, ?_⟩
  rw [rvq_off]
  obtain ⟨T, hT⟩ : ∃ T : Int, T = signed s m (i - min i j) + signed t n (j - min i j) := ⟨_, rfl⟩
  rw [← hT]
  have k1 : (m <<< (i - min i j)) * 2 ^ min i j = m * 2 ^ i := by rw [Nat.shiftLeft_eq, Nat.mul_assoc, ← Nat.pow_add, show i - min i j + min i j = i by omega]
  have k2 : (n <<< (j - min i j)) * 2 ^ min i j = n * 2 ^ j := by rw [Nat.shiftLeft_eq, Nat.mul_assoc, ← Nat.pow_add, show j - min i j + min i j = j by omega]
  have hv : T * ((2 ^ min i j : Nat) : Int) = sgi s ((m * 2 ^ i : Nat) : Int) + sgi t ((n * 2 ^ j : Nat) : Int) := by
    rw [hT, Int.add_mul, ← k1, ← k2]
    unfold signed sgi
    cases s <;> cases t <;> simp [Int.neg_mul, Int.natCast_mul]
  have e3 : ∀ (b : Bool) (k : Nat), sgnq b (((k : Nat) : Rat) / W1) = ((sgi b ((k : Nat) : Int) : Int) : Rat) / W1 := fun b k => by
    cases b
    · rfl
    · simp only [sgnq, sgi, if_true]; rw [Rat.intCast_neg, Rat.div_def, Rat.div_def, Rat.neg_mul]; rfl
  rw [e3, e3, e3]
  have e4 : sgi (if T = 0 then s && t else decide (T < 0)) ((T.natAbs * 2 ^ min i j : Nat) : Int) = T * ((2 ^ min i j : Nat) : Int) := by
    rw [Int.natCast_mul]
    by_cases h0 : T = 0
    · subst h0; simp [sgi]
    · rw [if_neg h0]
      unfold sgi
      by_cases h1 : T < 0
      · rw [decide_eq_true h1, if_pos rfl, ← Int.neg_mul]; congr 1; omega
      · rw [decide_eq_false h1, if_neg (by decide)]; congr 1; omega
  rw [e4, hv, Rat.intCast_add, Rat.div_def, Rat.div_def, Rat.div_def, Rat.add_mul]
end Go.Proofs.Ytlmiadjogdfjkaa.V
