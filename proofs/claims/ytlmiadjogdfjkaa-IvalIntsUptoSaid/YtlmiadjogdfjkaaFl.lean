/- How the model's orders of two floats read off their bits. Plain mathematics of words; no condition but that no word is a NaN where said. -/
import Ieee.Arith
import GoSem.Core.Float
import GoSem.Op.Unary
namespace Go.Proofs.Ytlmiadjogdfjkaa.Fl
open Ieee

def rung (b : Nat) : Nat := b % 9223372036854775808
def sgn (b : Nat) : Bool := b / 9223372036854775808 % 2 == 1
def mag (r : Nat) : Nat := if r < 4503599627370496 then r else (4503599627370496 + r % 4503599627370496) * 2 ^ (r / 4503599627370496 - 1)
def INF : Nat := 9218868437227405312
def key (b : Nat) : Int := if sgn b then -(rung b : Int) else rung b
def isN (b : Nat) : Bool := decide (INF < rung b)

theorem d_sw : double.signWeight = 9223372036854775808 := by decide
theorem d_bin : double.binade = 4503599627370496 := by decide
theorem d_inf : double.infRung = 9218868437227405312 := by decide
theorem d_least : double.leastPlace = -1074 := by decide

theorem mag_step (r : Nat) : mag r < mag (r + 1) := by
  unfold mag
  by_cases h1 : r + 1 < 4503599627370496
  · rw [if_pos h1, if_pos (by omega)]; omega
  by_cases h2 : r < 4503599627370496
  · have e : r = 4503599627370495 := by omega
    subst e
    decide
  rw [if_neg h2, if_neg h1]
  obtain ⟨q, hq⟩ : ∃ q, r / 4503599627370496 = q + 1 := ⟨r / 4503599627370496 - 1, by omega⟩
  obtain ⟨t, ht⟩ : ∃ t, r % 4503599627370496 = t := ⟨_, rfl⟩
  have htl : t < 4503599627370496 := by omega
  by_cases h3 : t + 1 < 4503599627370496
  · have e1 : (r + 1) / 4503599627370496 = q + 1 := by omega
    have e2 : (r + 1) % 4503599627370496 = t + 1 := by omega
    rw [hq, ht, e1, e2]
    exact Nat.mul_lt_mul_of_pos_right (by omega) (Nat.two_pow_pos _)
  · have e1 : (r + 1) / 4503599627370496 = q + 2 := by omega
    have e2 : (r + 1) % 4503599627370496 = 0 := by omega
    rw [hq, ht, e1, e2, show q + 2 - 1 = (q + 1 - 1) + 1 from by omega, Nat.pow_succ]
    have := Nat.two_pow_pos (q + 1 - 1)
    generalize 2 ^ (q + 1 - 1) = z at this ⊢
    have e : t = 4503599627370495 := by omega
    subst e
    omega

theorem mag_lt {r s : Nat} (h : r < s) : mag r < mag s := by
  induction s with
  | zero => omega
  | succ s ih =>
    rcases Nat.lt_or_ge r s with h1 | h1
    · exact Nat.lt_trans (ih h1) (mag_step s)
    · have : r = s := by omega
      subst this; exact mag_step r

theorem mag_iff {r s : Nat} : mag r < mag s ↔ r < s := by
  refine ⟨fun h => ?_, mag_lt⟩
  rcases Nat.lt_trichotomy r s with h1 | h1 | h1
  · exact h1
  · subst h1; omega
  · have := mag_lt h1; omega

theorem mag_pos {r : Nat} : 0 < mag r ↔ 0 < r := by
  have := @mag_iff 0 r
  rwa [show mag 0 = 0 from rfl] at this

theorem read_num {b : Nat} (h : rung b < INF) : ∃ m e : Nat, double.read b = .number (sgn b) m (-1074 + (e : Int)) ∧ m * 2 ^ e = mag (rung b) := by
  unfold INF at h
  unfold Format.read
  rw [d_sw, d_bin, d_inf, d_least]
  show ∃ m e : Nat, (if rung b < 4503599627370496 then Datum.number (sgn b) (rung b) (-1074) else if rung b < 9218868437227405312 then .number (sgn b) (4503599627370496 + rung b % 4503599627370496) (-1074 + (rung b / 4503599627370496 - 1 : Nat)) else _) = _ ∧ _
  unfold mag
  by_cases h1 : rung b < 4503599627370496
  · rw [if_pos h1, if_pos h1]
    exact ⟨rung b, 0, by simp, by simp⟩
  · rw [if_neg h1, if_pos h, if_neg h1]
    exact ⟨_, _, rfl, rfl⟩

theorem read_inf {b : Nat} (h : rung b = INF) : double.read b = .infinity (sgn b) := by
  unfold INF at h
  unfold Format.read
  rw [d_sw, d_bin, d_inf, d_least]
  show (if rung b < 4503599627370496 then Datum.number (sgn b) (rung b) (-1074) else if rung b < 9218868437227405312 then .number (sgn b) (4503599627370496 + rung b % 4503599627370496) (-1074 + (rung b / 4503599627370496 - 1 : Nat)) else if rung b = 9218868437227405312 then .infinity (sgn b) else _) = _
  rw [if_neg (by omega), if_neg (by omega), if_pos h]

theorem read_nan {b : Nat} (h : INF < rung b) : ∃ s t, double.read b = .nan s t := by
  unfold INF at h
  unfold Format.read
  rw [d_sw, d_bin, d_inf, d_least]
  show ∃ s t, (if rung b < 4503599627370496 then Datum.number (sgn b) (rung b) (-1074) else if rung b < 9218868437227405312 then .number (sgn b) (4503599627370496 + rung b % 4503599627370496) (-1074 + (rung b / 4503599627370496 - 1 : Nat)) else if rung b = 9218868437227405312 then .infinity (sgn b) else .nan (sgn b) (rung b - 9218868437227405312)) = .nan s t
  rw [if_neg (by omega), if_neg (by omega), if_neg (by omega)]
  exact ⟨_, _, rfl⟩

theorem cmp_eq {a b c d : Int} (h1 : a < b ↔ c < d) (h2 : b < a ↔ d < c) : compare a b = compare c d := by
  simp only [compare, compareOfLessAndEq]
  by_cases x : a < b
  · rw [if_pos x, if_pos (h1.1 x)]
  · rw [if_neg x, if_neg (fun y => x (h1.2 y))]
    by_cases z : b < a
    · rw [if_neg (by omega), if_neg (by have := h2.1 z; omega)]
    · rw [if_pos (by omega), if_pos (by have := fun y => z (h2.2 y); have := fun y => x (h1.2 y); omega)]

theorem cmp_lt {a b : Int} (h : a < b) : compare a b = .lt := by
  simp only [compare, compareOfLessAndEq]; rw [if_pos h]
theorem cmp_gt {a b : Int} (h : b < a) : compare a b = .gt := by
  simp only [compare, compareOfLessAndEq]; rw [if_neg (by omega), if_neg (by omega)]

theorem signed_cmp (s t : Bool) (a b c d : Nat) (h1 : a < b ↔ c < d) (h2 : b < a ↔ d < c) (p1 : 0 < a ↔ 0 < c) (p2 : 0 < b ↔ 0 < d) :
    compare (if s then -(a : Int) else a) (if t then -(b : Int) else b) = compare (if s then -(c : Int) else c) (if t then -(d : Int) else d) := by
  refine cmp_eq ?_ ?_ <;> cases s <;> cases t <;> simp <;> omega

theorem order_num {x y : Nat} (hx : rung x < INF) (hy : rung y < INF) : double.order x y = some (compare (key x) (key y)) := by
  obtain ⟨m, e, h1, h2⟩ := read_num hx
  obtain ⟨n, f, h3, h4⟩ := read_num hy
  unfold Format.order
  rw [h1, h3]
  show some (compare (signed (sgn x) m (-1074 + (e : Int) - min (-1074 + (e : Int)) (-1074 + (f : Int))).toNat) (signed (sgn y) n (-1074 + (f : Int) - min (-1074 + (e : Int)) (-1074 + (f : Int))).toNat)) = _
  have e1 : (-1074 + (e : Int) - min (-1074 + (e : Int)) (-1074 + (f : Int))).toNat = e - min e f := by omega
  have e2 : (-1074 + (f : Int) - min (-1074 + (e : Int)) (-1074 + (f : Int))).toNat = f - min e f := by omega
  rw [e1, e2]
  unfold signed key
  congr 1
  have k1 : (m <<< (e - min e f)) * 2 ^ min e f = mag (rung x) := by
    rw [Nat.shiftLeft_eq, Nat.mul_assoc, ← Nat.pow_add, show e - min e f + min e f = e from by omega, h2]
  have k2 : (n <<< (f - min e f)) * 2 ^ min e f = mag (rung y) := by
    rw [Nat.shiftLeft_eq, Nat.mul_assoc, ← Nat.pow_add, show f - min e f + min e f = f from by omega, h4]
  have kp := Nat.two_pow_pos (min e f)
  refine signed_cmp _ _ _ _ _ _ ?_ ?_ ?_ ?_
  · rw [← @mag_iff (rung x), ← k1, ← k2]; exact (Nat.mul_lt_mul_right kp).symm
  · rw [← @mag_iff (rung y), ← k1, ← k2]; exact (Nat.mul_lt_mul_right kp).symm
  · rw [← @mag_pos (rung x), ← k1]; exact ⟨fun h => Nat.mul_pos h kp, fun h => Nat.pos_of_mul_pos_right h⟩
  · rw [← @mag_pos (rung y), ← k2]; exact ⟨fun h => Nat.mul_pos h kp, fun h => Nat.pos_of_mul_pos_right h⟩

/-- The order of two words that are no NaNs is that of their keys. -/
theorem order_key {x y : Nat} (hx : rung x ≤ INF) (hy : rung y ≤ INF) : double.order x y = some (compare (key x) (key y)) := by
  rcases Nat.lt_or_eq_of_le hx with hx | hx <;> rcases Nat.lt_or_eq_of_le hy with hy | hy
  · exact order_num hx hy
  · obtain ⟨m, e, h1, _⟩ := read_num hx
    unfold Format.order
    rw [h1, read_inf hy]
    show some (if sgn y then Ordering.gt else Ordering.lt) = _
    unfold key
    rw [hy]
    congr 1
    unfold INF at *
    cases sgn y <;> cases sgn x <;> first | exact (cmp_lt (by simp; omega)).symm | exact (cmp_gt (by simp; omega)).symm
  · obtain ⟨m, e, h1, _⟩ := read_num hy
    unfold Format.order
    rw [h1, read_inf hx]
    show some (if sgn x then Ordering.lt else Ordering.gt) = _
    unfold key
    rw [hx]
    congr 1
    unfold INF at *
    cases sgn y <;> cases sgn x <;> first | exact (cmp_lt (by simp; omega)).symm | exact (cmp_gt (by simp; omega)).symm
  · unfold Format.order
    rw [read_inf hx, read_inf hy]
    show some (compare (sgn y).toNat (sgn x).toNat) = _
    unfold key
    rw [hx, hy]
    cases sgn y <;> cases sgn x <;> decide

theorem order_nan {x y : Nat} (h : INF < rung x ∨ INF < rung y) : double.order x y = none := by
  unfold Format.order
  rcases h with h | h
  · obtain ⟨s, t, e⟩ := read_nan h
    rw [e]; rfl
  · obtain ⟨s, t, e⟩ := read_nan h
    rw [e]; cases double.read x <;> rfl

/-! ### The tests that the program makes -/
theorem rung_le (b : Nat) : rung b < 9223372036854775808 := Nat.mod_lt _ (by decide)
theorem ord_self (b : Nat) : (FloatKind.f64.format.order b b != some .eq) = isN b := by
  show (double.order b b != some .eq) = decide (INF < rung b)
  by_cases h : INF < rung b
  · rw [order_nan (.inl h), decide_eq_true h]; rfl
  · rw [order_key (by omega) (by omega), decide_eq_false h]
    simp [compare, compareOfLessAndEq]
theorem ord_self' (b : Nat) : (FloatKind.f64.format.order b b == some .eq) = !isN b := by
  have h := ord_self b
  unfold bne at h
  rw [← h, Bool.not_not]
theorem sgn_of {b : Nat} (hb : b < 18446744073709551616) : sgn b = decide (9223372036854775808 ≤ b) := by
  unfold sgn
  by_cases h : 9223372036854775808 ≤ b
  · rw [decide_eq_true h, show b / 9223372036854775808 = 1 from by omega]; rfl
  · rw [decide_eq_false h, show b / 9223372036854775808 = 0 from by omega]; rfl
theorem rung_of {b : Nat} (hb : b < 18446744073709551616) : rung b = if 9223372036854775808 ≤ b then b - 9223372036854775808 else b := by
  unfold rung
  split <;> omega
theorem key_of {b : Nat} (hb : b < 18446744073709551616) : key b = if 9223372036854775808 ≤ b then 9223372036854775808 - (b : Int) else b := by
  unfold key
  rw [sgn_of hb, rung_of hb]
  by_cases h : 9223372036854775808 ≤ b
  · rw [decide_eq_true h, if_pos h, if_pos h, if_pos rfl]; omega
  · rw [decide_eq_false h, if_neg h, if_neg h]; rfl
theorem eq_of_cmp (a b : Int) : (some (compare a b) == some Ordering.eq) = decide (a = b) := by
  simp only [compare, compareOfLessAndEq]
  by_cases h : a < b
  · rw [if_pos h, decide_eq_false (by omega)]; rfl
  · by_cases h2 : a = b
    · rw [if_neg h, if_pos h2, decide_eq_true h2]; rfl
    · rw [if_neg h, if_neg h2, decide_eq_false h2]; rfl
theorem lt_of_cmp (a b : Int) : (some (compare a b) == some Ordering.lt) = decide (a < b) := by
  simp only [compare, compareOfLessAndEq]
  by_cases h : a < b
  · rw [if_pos h, decide_eq_true h]; rfl
  · by_cases h2 : a = b
    · rw [if_neg h, if_pos h2, decide_eq_false h]; rfl
    · rw [if_neg h, if_neg h2, decide_eq_false h]; rfl
theorem gt_of_cmp (a b : Int) : (some (compare a b) == some Ordering.gt) = decide (b < a) := by
  simp only [compare, compareOfLessAndEq]
  by_cases h : a < b
  · rw [if_pos h, decide_eq_false (by omega)]; rfl
  · by_cases h2 : a = b
    · rw [if_neg h, if_pos h2, decide_eq_false (by omega)]; rfl
    · rw [if_neg h, if_neg h2, decide_eq_true (by omega)]; rfl
theorem ord_eq (x y : Nat) : (FloatKind.f64.format.order x y == some .eq) = (!isN x && !isN y && decide (key x = key y)) := by
  show (double.order x y == some .eq) = _
  unfold isN
  by_cases h1 : INF < rung x
  · rw [order_nan (.inl h1), decide_eq_true h1]; rfl
  by_cases h2 : INF < rung y
  · rw [order_nan (.inr h2), decide_eq_true h2]; cases decide (INF < rung x) <;> rfl
  rw [order_key (by omega) (by omega), decide_eq_false h1, decide_eq_false h2, eq_of_cmp]; rfl
theorem ord_lt (x y : Nat) : (FloatKind.f64.format.order x y == some .lt) = (!isN x && !isN y && decide (key x < key y)) := by
  show (double.order x y == some .lt) = _
  unfold isN
  by_cases h1 : INF < rung x
  · rw [order_nan (.inl h1), decide_eq_true h1]; rfl
  by_cases h2 : INF < rung y
  · rw [order_nan (.inr h2), decide_eq_true h2]; cases decide (INF < rung x) <;> rfl
  rw [order_key (by omega) (by omega), decide_eq_false h1, decide_eq_false h2, lt_of_cmp]; rfl
theorem ord_gt (x y : Nat) : (FloatKind.f64.format.order x y == some .gt) = (!isN x && !isN y && decide (key y < key x)) := by
  show (double.order x y == some .gt) = _
  unfold isN
  by_cases h1 : INF < rung x
  · rw [order_nan (.inl h1), decide_eq_true h1]; rfl
  by_cases h2 : INF < rung y
  · rw [order_nan (.inr h2), decide_eq_true h2]; cases decide (INF < rung x) <;> rfl
  rw [order_key (by omega) (by omega), decide_eq_false h1, decide_eq_false h2, gt_of_cmp]; rfl
theorem isN_of {b : Nat} (hb : b < 18446744073709551616) : isN b = decide (9218868437227405312 < b ∧ b < 9223372036854775808 ∨ 18442240474082181120 < b) := by
  unfold isN INF
  rw [rung_of hb]
  refine decide_eq_decide.2 ?_
  split <;> omega
theorem ord_0 {b : Nat} (hb : b < 18446744073709551616) : (FloatKind.f64.format.order b 0 == some .eq) = decide (b = 0 ∨ b = 9223372036854775808) := by
  rw [ord_eq, isN_of hb, show isN 0 = false from by decide, key_of hb, show key 0 = 0 from by decide]
  simp only [Bool.not_false, Bool.and_true]
  rw [← decide_not, ← Bool.decide_and]
  refine decide_eq_decide.2 ?_
  split <;> omega
theorem ord_m {b : Nat} (hb : b < 18446744073709551616) (hn : isN b = false) (h0 : ¬ (b = 0 ∨ b = 9223372036854775808)) : (FloatKind.f64.format.order b 0 == some .lt) = decide (¬ b < 9223372036854775808) := by
  rw [ord_lt, hn, show isN 0 = false from by decide, key_of hb, show key 0 = 0 from by decide]
  simp only [Bool.not_false, Bool.true_and]
  refine decide_eq_decide.2 ?_
  split <;> omega
theorem ord_top {b : Nat} (hb : b < 18446744073709551616) : (FloatKind.f64.format.order b 9218868437227405311 == some .gt) = decide (b = 9218868437227405312) := by
  rw [ord_gt, isN_of hb, show isN 9218868437227405311 = false from by decide, key_of hb, show key 9218868437227405311 = 9218868437227405311 from by decide]
  simp only [Bool.not_false, Bool.and_true]
  rw [← decide_not, ← Bool.decide_and]
  refine decide_eq_decide.2 ?_
  split <;> omega
theorem ord_bot {b : Nat} (hb : b < 18446744073709551616) : (FloatKind.f64.format.order b 18442240474082181119 == some .lt) = decide (b = 18442240474082181120) := by
  rw [ord_lt, isN_of hb, show isN 18442240474082181119 = false from by decide, key_of hb, show key 18442240474082181119 = -9218868437227405311 from by decide]
  simp only [Bool.not_false, Bool.and_true]
  rw [← decide_not, ← Bool.decide_and]
  refine decide_eq_decide.2 ?_
  split <;> omega

/-- The least float above, by its bits. -/
def up (b : Nat) : Nat := if isN b = true ∨ b = 9218868437227405312 then b else if b = 0 ∨ b = 9223372036854775808 then 1 else if b < 9223372036854775808 then b + 1 else b - 1
def ng (b : Nat) : Nat := Op.negFloat .f64 b
theorem ng_lt {b : Nat} (hb : b < 18446744073709551616) : ng b < 18446744073709551616 := Nat.xor_lt_two_pow (n := 64) hb (by decide)
theorem up_lt {b : Nat} (hb : b < 18446744073709551616) : up b < 18446744073709551616 := by
  unfold up
  rw [isN_of hb]
  split
  · exact hb
  · rename_i h
    simp only [decide_eq_true_eq] at h
    split
    · omega
    · split <;> omega
def dn (b : Nat) : Nat := ng (up (ng b))
theorem dn_lt {b : Nat} (hb : b < 18446744073709551616) : dn b < 18446744073709551616 := ng_lt (up_lt (ng_lt hb))
def low (b : Nat) : Nat := if isN b = true then 18442240474082181120 else dn b
def high (b : Nat) : Nat := if isN b = true then 9218868437227405312 else up b
theorem low_lt {b : Nat} (hb : b < 18446744073709551616) : low b < 18446744073709551616 := by unfold low; split <;> first | decide | exact dn_lt hb
theorem high_lt {b : Nat} (hb : b < 18446744073709551616) : high b < 18446744073709551616 := by unfold high; split <;> first | decide | exact up_lt hb
end Go.Proofs.Ytlmiadjogdfjkaa.Fl
