/- How the model's orders of two floats read off their bits. Plain mathematics of words; no condition but that no word is a NaN where said. -/
import Ieee.Arith
import GoSem.Core.Float
import GoSem.Op.Unary
import Derived.Laws.FloatArith
import Derived.Laws.Externs
import Derived.Test.YtekghdfbhbhigaaGreatM04
namespace Go.Proofs.YtekghdfbhbhigaaGreat.Fl
open Ieee

def rung (b : Nat) : Nat := b % 9223372036854775808
def sgn (b : Nat) : Bool := b / 9223372036854775808 % 2 == 1
def mag (r : Nat) : Nat := if r < 4503599627370496 then r else (4503599627370496 + r % 4503599627370496) * 2 ^ (r / 4503599627370496 - 1)
def INF : Nat := 9218868437227405312
def key (b : Nat) : Int := if sgn b then -(rung b : Int) else rung b
def isN (b : Nat) : Bool := decide (INF < rung b)

theorem d_sw : double.signWeight = 9223372036854775808 := by decide
theorem d_bin : double.binade = 4503599627370496 := by decide
theorem d_inf : double.infRung = 9218868437227405312 := by decide
theorem d_least : double.leastPlace = -1074 := by decide

theorem mag_step (r : Nat) : mag r < mag (r + 1) := by
  unfold mag
  by_cases h1 : r + 1 < 4503599627370496
  · rw [if_pos h1, if_pos (by omega)]; omega
  by_cases h2 : r < 4503599627370496
  · have e : r = 4503599627370495 := by omega
    subst e
    decide
  rw [if_neg h2, if_neg h1]
  obtain ⟨q, hq⟩ : ∃ q, r / 4503599627370496 = q + 1 := ⟨r / 4503599627370496 - 1, by omega⟩
  obtain ⟨t, ht⟩ : ∃ t, r % 4503599627370496 = t := ⟨_, rfl⟩
  have htl : t < 4503599627370496 := by omega
  by_cases h3 : t + 1 < 4503599627370496
  · have e1 : (r + 1) / 4503599627370496 = q + 1 := by omega
    have e2 : (r + 1) % 4503599627370496 = t + 1 := by omega
    rw [hq, ht, e1, e2]
    exact Nat.mul_lt_mul_of_pos_right (by omega) (Nat.two_pow_pos _)
  · have e1 : (r + 1) / 4503599627370496 = q + 2 := by omega
    have e2 : (r + 1) % 4503599627370496 = 0 := by omega
    rw [hq, ht, e1, e2, show q + 2 - 1 = (q + 1 - 1) + 1 from by omega, Nat.pow_succ]
    have := Nat.two_pow_pos (q + 1 - 1)
    generalize 2 ^ (q + 1 - 1) = z at this ⊢
    have e : t = 4503599627370495 := by omega
    subst e
    omega

theorem mag_lt {r s : Nat} (h : r < s) : mag r < mag s := by
  induction s with
  | zero => omega
  | succ s ih =>
    rcases Nat.lt_or_ge r s with h1 | h1
    · exact Nat.lt_trans (ih h1) (mag_step s)
    · have : r = s := by omega
      subst this; exact mag_step r

theorem mag_iff {r s : Nat} : mag r < mag s ↔ r < s := by
  refine ⟨fun h => ?_, mag_lt⟩
  rcases Nat.lt_trichotomy r s with h1 | h1 | h1
  · exact h1
  · subst h1; omega
  · have := mag_lt h1; omega

theorem mag_pos {r : Nat} : 0 < mag r ↔ 0 < r := by
  have := @mag_iff 0 r
  rwa [show mag 0 = 0 from rfl] at this

theorem read_num {b : Nat} (h : rung b < INF) : ∃ m e : Nat, double.read b = .number (sgn b) m (-1074 + (e : Int)) ∧ m * 2 ^ e = mag (rung b) := by
  unfold INF at h
  unfold Format.read
  rw [d_sw, d_bin, d_inf, d_least]
  show ∃ m e : Nat, (if rung b < 4503599627370496 then Datum.number (sgn b) (rung b) (-1074) else if rung b < 9218868437227405312 then .number (sgn b) (4503599627370496 + rung b % 4503599627370496) (-1074 + (rung b / 4503599627370496 - 1 : Nat)) else _) = _ ∧ _
  unfold mag
  by_cases h1 : rung b < 4503599627370496
  · rw [if_pos h1, if_pos h1]
    exact ⟨rung b, 0, by simp, by simp⟩
  · rw [if_neg h1, if_pos h, if_neg h1]
    exact ⟨_, _, rfl, rfl⟩

theorem read_inf {b : Nat} (h : rung b = INF) : double.read b = .infinity (sgn b) := by
  unfold INF at h
  unfold Format.read
  rw [d_sw, d_bin, d_inf, d_least]
  show (if rung b < 4503599627370496 then Datum.number (sgn b) (rung b) (-1074) else if rung b < 9218868437227405312 then .number (sgn b) (4503599627370496 + rung b % 4503599627370496) (-1074 + (rung b / 4503599627370496 - 1 : Nat)) else if rung b = 9218868437227405312 then .infinity (sgn b) else _) = _
  rw [if_neg (by omega), if_neg (by omega), if_pos h]

theorem read_nan {b : Nat} (h : INF < rung b) : ∃ s t, double.read b = .nan s t := by
  unfold INF at h
  unfold Format.read
  rw [d_sw, d_bin, d_inf, d_least]
  show ∃ s t, (if rung b < 4503599627370496 then Datum.number (sgn b) (rung b) (-1074) else if rung b < 9218868437227405312 then .number (sgn b) (4503599627370496 + rung b % 4503599627370496) (-1074 + (rung b / 4503599627370496 - 1 : Nat)) else if rung b = 9218868437227405312 then .infinity (sgn b) else .nan (sgn b) (rung b - 9218868437227405312)) = .nan s t
  rw [if_neg (by omega), if_neg (by omega), if_neg (by omega)]
  exact ⟨_, _, rfl⟩

theorem cmp_eq {a b c d : Int} (h1 : a < b ↔ c < d) (h2 : b < a ↔ d < c) : compare a b = compare c d := by
  simp only [compare, compareOfLessAndEq]
  by_cases x : a < b
  · rw [if_pos x, if_pos (h1.1 x)]
  · rw [if_neg x, if_neg (fun y => x (h1.2 y))]
    by_cases z : b < a
    · rw [if_neg (by omega), if_neg (by have := h2.1 z; omega)]
    · rw [if_pos (by omega), if_pos (by have := fun y => z (h2.2 y); have := fun y => x (h1.2 y); omega)]

theorem cmp_lt {a b : Int} (h : a < b) : compare a b = .lt := by
  simp only [compare, compareOfLessAndEq]; rw [if_pos h]
theorem cmp_gt {a b : Int} (h : b < a) : compare a b = .gt := by
  simp only [compare, compareOfLessAndEq]; rw [if_neg (by omega), if_neg (by omega)]

theorem signed_cmp (s t : Bool) (a b c d : Nat) (h1 : a < b ↔ c < d) (h2 : b < a ↔ d < c) (p1 : 0 < a ↔ 0 < c) (p2 : 0 < b ↔ 0 < d) :
    compare (if s then -(a : Int) else a) (if t then -(b : Int) else b) = compare (if s then -(c : Int) else c) (if t then -(d : Int) else d) := by
  refine cmp_eq ?_ ?_ <;> cases s <;> cases t <;> simp <;> omega

theorem order_num {x y : Nat} (hx : rung x < INF) (hy : rung y < INF) : double.order x y = some (compare (key x) (key y)) := by
  obtain ⟨m, e, h1, h2⟩ := read_num hx
  obtain ⟨n, f, h3, h4⟩ := read_num hy
  unfold Format.order
  rw [h1, h3]
  show some (compare (signed (sgn x) m (-1074 + (e : Int) - min (-1074 + (e : Int)) (-1074 + (f : Int))).toNat) (signed (sgn y) n (-1074 + (f : Int) - min (-1074 + (e : Int)) (-1074 + (f : Int))).toNat)) = _
  have e1 : (-1074 + (e : Int) - min (-1074 + (e : Int)) (-1074 + (f : Int))).toNat = e - min e f := by omega
  have e2 : (-1074 + (f : Int) - min (-1074 + (e : Int)) (-1074 + (f : Int))).toNat = f - min e f := by omega
  rw [e1, e2]
  unfold signed key
  congr 1
  have k1 : (m <<< (e - min e f)) * 2 ^ min e f = mag (rung x) := by
    rw [Nat.shiftLeft_eq, Nat.mul_assoc, ← Nat.pow_add, show e - min e f + min e f = e from by omega, h2]
  have k2 : (n <<< (f - min e f)) * 2 ^ min e f = mag (rung y) := by
    rw [Nat.shiftLeft_eq, Nat.mul_assoc, ← Nat.pow_add, show f - min e f + min e f = f from by omega, h4]
  have kp := Nat.two_pow_pos (min e f)
  refine signed_cmp _ _ _ _ _ _ ?_ ?_ ?_ ?_
  · rw [← @mag_iff (rung x), ← k1, ← k2]; exact (Nat.mul_lt_mul_right kp).symm
  · rw [← @mag_iff (rung y), ← k1, ← k2]; exact (Nat.mul_lt_mul_right kp).symm
  · rw [← @mag_pos (rung x), ← k1]; exact ⟨fun h => Nat.mul_pos h kp, fun h => Nat.pos_of_mul_pos_right h⟩
  · rw [← @mag_pos (rung y), ← k2]; exact ⟨fun h => Nat.mul_pos h kp, fun h => Nat.pos_of_mul_pos_right h⟩

/-- The order of two words that are no NaNs is that of their keys. -/
theorem order_key {x y : Nat} (hx : rung x ≤ INF) (hy : rung y ≤ INF) : double.order x y = some (compare (key x) (key y)) := by
  rcases Nat.lt_or_eq_of_le hx with hx | hx <;> rcases Nat.lt_or_eq_of_le hy with hy | hy
  · exact order_num hx hy
  · obtain ⟨m, e, h1, _⟩ := read_num hx
    unfold Format.order
    rw [h1, read_inf hy]
    show some (if sgn y then Ordering.gt else Ordering.lt) = _
    unfold key
    rw [hy]
    congr 1
    unfold INF at *
    cases sgn y <;> cases sgn x <;> first | exact (cmp_lt (by simp; omega)).symm | exact (cmp_gt (by simp; omega)).symm
  · obtain ⟨m, e, h1, _⟩ := read_num hy
    unfold Format.order
    rw [h1, read_inf hx]
    show some (if sgn x then Ordering.lt else Ordering.gt) = _
    unfold key
    rw [hx]
    congr 1
    unfold INF at *
    cases sgn y <;> cases sgn x <;> first | exact (cmp_lt (by simp; omega)).symm | exact (cmp_gt (by simp; omega)).symm
  · unfold Format.order
    rw [read_inf hx, read_inf hy]
    show some (compare (sgn y).toNat (sgn x).toNat) = _
    unfold key
    rw [hx, hy]
    cases sgn y <;> cases sgn x <;> decide

theorem order_nan {x y : Nat} (h : INF < rung x ∨ INF < rung y) : double.order x y = none := by
  unfold Format.order
  rcases h with h | h
  · obtain ⟨s, t, e⟩ := read_nan h
    rw [e]; rfl
  · obtain ⟨s, t, e⟩ := read_nan h
    rw [e]; cases double.read x <;> rfl

/-! ### The tests that the program makes -/
theorem sgn_of {b : Nat} (hb : b < 18446744073709551616) : sgn b = decide (9223372036854775808 ≤ b) := by
  unfold sgn
  by_cases h : 9223372036854775808 ≤ b
  · rw [decide_eq_true h, show b / 9223372036854775808 = 1 from by omega]; rfl
  · rw [decide_eq_false h, show b / 9223372036854775808 = 0 from by omega]; rfl
theorem rung_of {b : Nat} (hb : b < 18446744073709551616) : rung b = if 9223372036854775808 ≤ b then b - 9223372036854775808 else b := by
  unfold rung
  split <;> omega
theorem key_of {b : Nat} (hb : b < 18446744073709551616) : key b = if 9223372036854775808 ≤ b then 9223372036854775808 - (b : Int) else b := by
  unfold key
  rw [sgn_of hb, rung_of hb]
  by_cases h : 9223372036854775808 ≤ b
  · rw [decide_eq_true h, if_pos h, if_pos h, if_pos rfl]; omega
  · rw [decide_eq_false h, if_neg h, if_neg h]; rfl
theorem lt_of_cmp (a b : Int) : (some (compare a b) == some Ordering.lt) = decide (a < b) := by
  simp only [compare, compareOfLessAndEq]
  by_cases h : a < b
  · rw [if_pos h, decide_eq_true h]; rfl
  · by_cases h2 : a = b
    · rw [if_neg h, if_pos h2, decide_eq_false h]; rfl
    · rw [if_neg h, if_neg h2, decide_eq_false h]; rfl
theorem ord_lt (x y : Nat) : (FloatKind.f64.format.order x y == some .lt) = (!isN x && !isN y && decide (key x < key y)) := by
  show (double.order x y == some .lt) = _
  unfold isN
  by_cases h1 : INF < rung x
  · rw [order_nan (.inl h1), decide_eq_true h1]; rfl
  by_cases h2 : INF < rung y
  · rw [order_nan (.inr h2), decide_eq_true h2]; cases decide (INF < rung x) <;> rfl
  rw [order_key (by omega) (by omega), decide_eq_false h1, decide_eq_false h2, lt_of_cmp]; rfl
theorem ord_m {b : Nat} (hb : b < 18446744073709551616) (hn : isN b = false) (h0 : ¬ (b = 0 ∨ b = 9223372036854775808)) : (FloatKind.f64.format.order b 0 == some .lt) = decide (¬ b < 9223372036854775808) := by
  rw [ord_lt, hn, show isN 0 = false from by decide, key_of hb, show key 0 = 0 from by decide]
  simp only [Bool.not_false, Bool.true_and]
  refine decide_eq_decide.2 ?_
  split <;> omega
/-- The least float above, by its bits. -/
def up (b : Nat) : Nat := if isN b = true ∨ b = 9218868437227405312 then b else if b = 0 ∨ b = 9223372036854775808 then 1 else if b < 9223372036854775808 then b + 1 else b - 1
def ng (b : Nat) : Nat := Op.negFloat .f64 b
def dn (b : Nat) : Nat := ng (up (ng b))
def low (b : Nat) : Nat := if isN b = true then 18442240474082181120 else dn b
end Go.Proofs.YtekghdfbhbhigaaGreat.Fl
/- Floats in the logic of calls: a float is a word that is no NaN, or some NaN. -/
set_option linter.unusedVariables false
set_option linter.unusedSimpArgs false
set_option maxRecDepth 100000
namespace Go.Proofs.YtekghdfbhbhigaaGreat.V
open Go.RowKit Mt Nml

/-- A word, where it is no NaN. -/
def fo (b : Nat) : Option Nat := if Fl.isN b then none else some b
def T.F (o : Option Nat) : T := T.ex 1 false (fun b : Nat => b < 18446744073709551616 ∧ fo b = o) (fun b => T.c (.float .f64 b)) (fun _ => ⟨rfl, rfl, rfl⟩)
class BLt (b : Nat) : Prop where lt : b < 18446744073709551616
class IsF (X : T) (o : outParam (Option Nat)) : Prop where le : X.le (T.F o)
instance (o : Option Nat) : IsF (T.F o) o := ⟨.refl _⟩
instance (b : Nat) [h : BLt b] : IsF (T.c (.float .f64 b)) (fo b) := ⟨fun β u v k => ⟨b, ⟨h.lt, rfl⟩, k⟩⟩
instance : BLt 0 := ⟨by decide⟩
instance : BLt 9218868437227405311 := ⟨by decide⟩
instance : BLt 4602678819172646912 := ⟨by decide⟩
instance : BLt 4607182418800017408 := ⟨by decide⟩
def oLt : Option Nat → Option Nat → Bool
  | some x, some y => decide (Fl.key x < Fl.key y)
  | _, _ => false
theorem fo_lt (x y : Nat) : (FloatKind.f64.format.order x y == some .lt) = oLt (fo x) (fo y) := by
  rw [Fl.ord_lt]; unfold fo
  cases hx : Fl.isN x <;> cases hy : Fl.isN y <;> simp [oLt]
section
variable {P : Program} {ops : Array Oper} {fin : List OpS → List (Nat × T) → List (Nat × Option Ent) → Prop} {r : List Oper} {H : List OpS} {g : List (Nat × T)} {E : List (Nat × Option Ent)} {o : Oper}
variable {t : Option Nat} {ty : TypeId} {ps : String} {af : Array Edge} {gd : Option (Nat × Bool)} {x y : Operand} {X Y : T} {e off m n : Nat} {b : Bool} {et : TypeId} {a d : Option Nat}
end
section
variable {P : Program} {ops : Array Oper} {fin : List OpS → List (Nat × T) → List (Nat × Option Ent) → Prop} {r : List Oper} {H : List OpS} {g : List (Nat × T)} {E : List (Nat × Option Ent)}
variable {t : Option Nat} {ty : TypeId} {ps : String} {af : Array Edge} {gd : Option (Nat × Bool)} {X : T}
end
end Go.Proofs.YtekghdfbhbhigaaGreat.V
/- Floats: the next one, infinities, the same. -/
set_option linter.unusedVariables false
set_option linter.unusedSimpArgs false
set_option maxRecDepth 100000
namespace Go.Proofs.YtekghdfbhbhigaaGreat.V
open Go.RowKit Mt Nml
section
variable {P : Program} {ops : Array Oper} {fin : List OpS → List (Nat × T) → List (Nat × Option Ent) → Prop} {r : List Oper} {H : List OpS} {g : List (Nat × T)} {E : List (Nat × Option Ent)} {o : Oper}
variable {t : Option Nat} {ty : TypeId} {ps : String} {af : Array Edge} {gd : Option (Nat × Bool)} {x y : Operand} {X Y : T}
end
theorem lt0 {b : Nat} (hb : b < 18446744073709551616) (hn : Fl.isN b = false) (h : ¬ (b = 0 ∨ b = 9223372036854775808)) : oLt (fo b) (fo 0) = decide (¬ b < 9223372036854775808) := by rw [← fo_lt, Fl.ord_m hb hn h]

end Go.Proofs.YtekghdfbhbhigaaGreat.V
/- Floats as fractions; the law of the floats beside each float. -/
set_option linter.unusedVariables false
set_option linter.unusedSimpArgs false
set_option maxRecDepth 100000
namespace Go.Proofs.YtekghdfbhbhigaaGreat.V
open Go.RowKit Mt Nml
end Go.Proofs.YtekghdfbhbhigaaGreat.V
/- Intervals: sums. -/
set_option linter.unusedVariables false
set_option linter.unusedSimpArgs false
set_option maxRecDepth 100000
namespace Go.Proofs.YtekghdfbhbhigaaGreat.V
open Go.RowKit Mt Nml
end Go.Proofs.YtekghdfbhbhigaaGreat.V
/- Intervals: what they hold. -/
set_option linter.unusedVariables false
set_option linter.unusedSimpArgs false
set_option maxRecDepth 100000
namespace Go.Proofs.YtekghdfbhbhigaaGreat.V
open Go.RowKit Mt Nml
/-- A fraction however told. -/
abbrev T.Qi (a b : Int) (k : Nat) : T := T.st [T.Zi a k, T.Zi b k]
theorem qi_mono {a b : Int} {k k' : Nat} (h : k ≤ k') : (T.Qi a b k).le (T.Qi a b k') := st_le (l := [T.Zi a k, T.Zi b k]) (l' := [T.Zi a k', T.Zi b k']) ⟨zi_mono h, zi_mono h, trivial⟩
theorem q_qi (q : Rat) {k k' : Nat} (h : k ≤ k') : (T.Q q k).le (T.Qi q.num (q.den : Int) k') := st_le (l := [T.Z q.num k, T.Z (q.den : Int) k]) (l' := [T.Zi q.num k', T.Zi (q.den : Int) k']) ⟨(z_zi _ _).trans (zi_mono h), (z_zi _ _).trans (zi_mono h), trivial⟩
theorem rat_addG {a b c d : Int} (hb : b ≠ 0) (hd : d ≠ 0) : ((a * d + c * b : Int) : Rat) / ((b * d : Int) : Rat) = (a : Rat) / (b : Rat) + (c : Rat) / (d : Rat) := by
  rw [← Rat.divInt_eq_div, ← Rat.divInt_eq_div, ← Rat.divInt_eq_div, Rat.divInt_add_divInt _ _ hb hd]
theorem rat_mulG (a b c d : Int) : ((a * c : Int) : Rat) / ((b * d : Int) : Rat) = (a : Rat) / (b : Rat) * ((c : Rat) / (d : Rat)) := by
  rw [← Rat.divInt_eq_div, ← Rat.divInt_eq_div, ← Rat.divInt_eq_div, Rat.divInt_mul_divInt]
theorem rat_negG (a b : Int) : ((-a : Int) : Rat) / (b : Rat) = -((a : Rat) / (b : Rat)) := by
  rw [← Rat.divInt_eq_div, ← Rat.divInt_eq_div, Rat.neg_divInt]
theorem rat_nd (q : Rat) : ((q.num : Int) : Rat) / (((q.den : Int)) : Rat) = q := by rw [← Rat.divInt_eq_div, Rat.num_divInt_den]
instance (k : Nat) (q : Int × Int) : Sp ((cQi k).X q) [T.Zi q.1 k, T.Zi q.2 k] := inferInstanceAs (Sp (T.st [T.Zi q.1 k, T.Zi q.2 k]) _)
theorem two_pos {a b c d : Int} (hb : 0 < b) (hd : 0 < d) : ∀ i, i < [(a, b), (c, d)].length → 0 < ([(a, b), (c, d)].getD i (0, 0)).2 := fun i hi => by
  match i, hi with
  | 0, _ => exact hb
  | 1, _ => exact hd

theorem rat_validG {l : List (Int × Int)} {k : Nat} (hk : k ≤ 34359738368) (hl : l.length ≤ 1048576) (hp : ∀ i, i < l.length → 0 < (l.getD i (0, 0)).2) : Fn Tryz.prog 141 [T.l (cQi k) l] [] [] [] (T.c (.int .i64 0)) := by
  refine fn_of Tryz.func141 rfl (by show 1 ≤ 16; decide) fun cx hcx => ?_
  refine tri_sub (sl 0 rfl sn) en ?_
  refine tri_seq ?_
  refine tri_reg mixed hcx ?_ _ _
  refine asg rfl ?_
  refine ⟨by kernel_rfl, ?_⟩
  refine nx (sl 0 rfl sn) en ?_
  refine tri_seq ?_
  refine tri_seq ?_
  refine tri_reg mixed hcx ?_ _ _
  refine mv rfl ?_
  refine ln slQs rfl ?_
  refine mv rfl ?_
  refine ⟨by kernel_rfl, ?_⟩
  refine nx (sl 5 rfl (sl 6 rfl (sl 7 rfl sn))) en ?_
  refine tri_block ?_
  refine tri_loop (ι := Nat) (fun i => [(5, T.l (cQi k) l), (6, T.c (.int .i64 (l.length : Int))), (7, T.c (.int .i64 (i : Int)))]) (fun i => []) (fun i => l.length - i) (fun i => (i ≤ l.length)) 0 (Nat.zero_le _) (sl 5 rfl (sl 6 rfl (sl 7 rfl sn))) en ?_
  rintro i hi
  refine tri_sub (sl 5 rfl (sl 6 rfl (sl 7 rfl sn))) en ?_
  refine tri_seq ?_
  refine tri_reg mixed hcx ?_ _ _
  refine clt rfl rfl rfl ?_
  refine ⟨by kernel_rfl, ?_⟩
  refine nx (sl 5 rfl (sl 6 rfl (sl 7 rfl (sl 8 rfl sn)))) en ?_
  refine tri_seq ?_
  refine tri_if rfl (fun hc => ?_) (fun hc => ?_)
  · have hsg : sg (l.getD i (cQi k).dflt).2 = 1 := sg_pos (hp i (by omega))
    refine tri_skip ?_
    refine nx (sl 5 rfl (sl 6 rfl (sl 7 rfl sn))) en ?_
    refine tri_seq ?_
    refine tri_block ?_
    refine tri_seq ?_
    refine tri_reg mixed hcx ?_ _ _
    refine ix rfl rfl slQs ⟨rfl, by omega⟩ ?_
    refine lf rfl tyQ ?_
    refine nw 312 zeQ ?_
    refine sts (zz := [T.Zi (l.getD i (cQi k).dflt).1 k, T.Zi (l.getD i (cQi k).dflt).2 k]) rfl rfl rfl tyQ rfl ?_
    refine ⟨by kernel_rfl, ?_⟩
    refine nx (sl 4 rfl (sl 5 rfl (sl 6 rfl (sl 7 rfl sn)))) (el 312 rfl en) ?_
    refine tri_seq ?_
    refine tri_reg mixed hcx ?_ _ _
    refine fa rfl fDen 2 ?_
    refine ld rfl rfl tyZ rfl ?_
    refine ca rfl (h := zi_Sign (by omega)) (hn := ?_)
    refine cle rfl rfl (decide_eq_false (by omega)) ?_
    refine ⟨by kernel_rfl, ?_⟩
    refine nx (sl 5 rfl (sl 6 rfl (sl 7 rfl (sl 14 rfl sn)))) (el 312 rfl en) ?_
    refine tri_false rfl rfl ?_
    refine tri_skip ?_
    refine pn_blk ?_
    refine nx (sl 5 rfl (sl 6 rfl (sl 7 rfl sn))) (el 312 rfl en) ?_
    refine tri_reg mixed hcx ?_ _ _
    refine ad (((i + 1 : Nat) : Int)) rfl rfl rfl (by omega) ?_
    refine mv rfl ?_
    refine ⟨by kernel_rfl, ?_⟩
    exact pn_back (i + 1) (by first | omega | (dsimp only; omega)) (by omega) (sl 5 rfl (sl 6 rfl (sl 7 rfl sn))) en
  · refine tri_exit ?_
    repeat (first | refine pn_then ?_ | refine pn_oth (by decide) ?_)
    refine pn_ex ?_
    refine nx sn en ?_
    refine tri_seq ?_
    refine tri_reg mixed hcx ?_ _ _
    refine asg rfl ?_
    refine ⟨by kernel_rfl, ?_⟩
    refine nx (sl 2 rfl sn) en ?_
    refine tri_ret ?_
    repeat (first | refine pn_thenr ?_ | refine pn_blkr ?_)
    exact ret1 hcx rfl (rv_tmp rfl) (.refl _) en

theorem rat_CmpG {a b c d : Int} {k l : Nat} (hb : 0 < b) (hd : 0 < d) (hk : k ≤ 17179869184) (hl : l ≤ 17179869184) : Fn Tryz.prog 120 [T.Qi a b k, T.Qi c d l] [] [] [] (T.tup [T.c (.int .i64 (sgnc (a * d) (c * b))), T.c (.int .i64 0)]) := by
  refine fn_of Tryz.func120 rfl (by show 2 ≤ 25; decide) fun cx hcx => ?_
  refine tri_sub (sl 0 rfl (sl 1 rfl sn)) en ?_
  refine tri_seq ?_
  refine tri_reg mixed hcx ?_ _ _
  refine bxs 10 rfl ?_
  refine bxs 11 rfl ?_
  refine asg rfl ?_
  refine asg rfl ?_
  refine ⟨by kernel_rfl, ?_⟩
  refine nx (sl 2 rfl (sl 3 rfl sn)) (el 10 rfl (el 11 rfl en)) ?_
  refine tri_seq ?_
  refine tri_seq ?_
  refine tri_reg mixed hcx ?_ _ _
  refine ld rfl rfl tyQ rfl ?_
  refine ld rfl rfl tyQ rfl ?_
  refine bs (c := cQi (k + l)) (xs := [(a, b), (c, d)]) slQs rfl ⟨qi_mono (by omega), qi_mono (by omega), trivial⟩ ?_
  refine ca rfl (h := rat_validG (by omega) (by simp) (two_pos hb hd)) (hn := ?_)
  refine asg rfl ?_
  refine ⟨by kernel_rfl, ?_⟩
  refine nx (sl 2 rfl (sl 3 rfl (sl 6 rfl sn))) (el 10 rfl (el 11 rfl en)) ?_
  refine tri_seq ?_
  refine tri_reg mixed hcx ?_ _ _
  refine mv rfl ?_
  refine cne rfl rfl (decide_eq_false (by omega)) ?_
  refine ⟨by kernel_rfl, ?_⟩
  refine nx (sl 2 rfl (sl 3 rfl (sl 6 rfl (sl 12 rfl sn)))) (el 10 rfl (el 11 rfl en)) ?_
  refine tri_false rfl rfl ?_
  refine tri_skip ?_
  refine nx (sl 2 rfl (sl 3 rfl sn)) (el 10 rfl (el 11 rfl en)) ?_
  refine tri_seq ?_
  refine tri_reg mixed hcx ?_ _ _
  refine fa rfl fNum 0 ?_
  refine ld rfl rfl tyZ rfl ?_
  refine fa rfl fDen 2 ?_
  refine ld rfl rfl tyZ rfl ?_
  refine ca rfl (h := zi_Mul (by omega) (by omega)) (hn := ?_)
  refine fa rfl fNum 0 ?_
  refine ld rfl rfl tyZ rfl ?_
  refine fa rfl fDen 2 ?_
  refine ld rfl rfl tyZ rfl ?_
  refine ca rfl (h := zi_Mul (by omega) (by omega)) (hn := ?_)
  refine ca rfl (h := zi_Compare (by omega) (by omega)) (hn := ?_)
  refine asg rfl ?_
  refine asg rfl ?_
  refine ⟨by kernel_rfl, ?_⟩
  refine nx (sl 4 rfl (sl 5 rfl sn)) (el 10 rfl (el 11 rfl en)) ?_
  refine tri_ret ?_
  repeat (first | refine pn_thenr ?_ | refine pn_blkr ?_)
  exact ret2 hcx rfl (rv_tmp rfl) (rv_tmp rfl) (.refl _) en

section
variable {P : Program} {x : Code} {Q : Exit → Act → World → Prop} {ctx : Ctx} {n : Nat} {g : List (Nat × T)} {E : List (Nat × Option Ent)}
end
end Go.Proofs.YtekghdfbhbhigaaGreat.V
/- Sums, differences, products, quotients of any fractions. -/
set_option linter.unusedVariables false
set_option linter.unusedSimpArgs false
set_option maxRecDepth 100000
namespace Go.Proofs.YtekghdfbhbhigaaGreat.V
open Go.RowKit Mt Nml
theorem rat_subG {a b c d : Int} (hb : b ≠ 0) (hd : d ≠ 0) : ((a * d - c * b : Int) : Rat) / ((b * d : Int) : Rat) = (a : Rat) / (b : Rat) - (c : Rat) / (d : Rat) := by
  rw [Rat.sub_eq_add_neg, ← rat_negG, ← rat_addG hb hd, Int.sub_eq_add_neg, Int.neg_mul]
theorem rat_twoG {a b c d : Int} {s : Rat} {k l m : Nat} {f : FuncId} {Cs : List T} (hb : 0 < b) (hd : 0 < d) (hf : Fn Tryz.prog f Cs [] [] [] (T.Q s m)) (hen : Enters Tryz.prog f) (hns : Cs.flatMap (·.ns) = []) (hk : k ≤ 17179869184) (hl : l ≤ 17179869184) : Fn Tryz.prog 176 [T.Qi a b k, T.Qi c d l, T.clo f Cs hns] [] [] [] (T.tup [T.Q s m, T.c (.int .i64 0)]) := by
  refine fn_of Tryz.func176 rfl (by show 3 ≤ 19; decide) fun cx hcx => ?_
  refine tri_sub (sl 0 rfl (sl 1 rfl (sl 2 rfl sn))) en ?_
  refine tri_seq ?_
  refine tri_reg mixed hcx ?_ _ _
  refine bxs 10 rfl ?_
  refine bxs 11 rfl ?_
  refine nw 12 zeQ ?_
  refine asg rfl ?_
  refine ⟨by kernel_rfl, ?_⟩
  refine nx (sl 2 rfl (sl 3 rfl (sl 4 rfl (sl 6 rfl sn)))) (el 10 rfl (el 11 rfl (el 12 rfl en))) ?_
  refine tri_seq ?_
  refine tri_seq ?_
  refine tri_reg mixed hcx ?_ _ _
  refine ld rfl rfl tyQ rfl ?_
  refine ld rfl rfl tyQ rfl ?_
  refine bs (c := cQi (k + l)) (xs := [(a, b), (c, d)]) slQs rfl ⟨qi_mono (by omega), qi_mono (by omega), trivial⟩ ?_
  refine ca rfl (h := rat_validG (by omega) (by simp) (two_pos hb hd)) (hn := ?_)
  refine asg rfl ?_
  refine ⟨by kernel_rfl, ?_⟩
  refine nx (sl 2 rfl (sl 6 rfl (sl 8 rfl sn))) (el 10 rfl (el 11 rfl (el 12 rfl en))) ?_
  refine tri_seq ?_
  refine tri_reg mixed hcx ?_ _ _
  refine mv rfl ?_
  refine cne rfl rfl (decide_eq_false (by omega)) ?_
  refine ⟨by kernel_rfl, ?_⟩
  refine nx (sl 2 rfl (sl 6 rfl (sl 8 rfl (sl 14 rfl sn)))) (el 10 rfl (el 11 rfl (el 12 rfl en))) ?_
  refine tri_false rfl rfl ?_
  refine tri_skip ?_
  refine nx (sl 2 rfl (sl 6 rfl sn)) (el 10 rfl (el 11 rfl (el 12 rfl en))) ?_
  refine tri_seq ?_
  refine tri_as 2 (Z := T.fn f Cs) rfl clo_ge ?_
  refine tri_reg mixed hcx ?_ _ _
  refine mv rfl ?_
  refine cf rfl rfl hf hen ?_
  refine st rfl rfl rfl tyQ rfl ?_
  refine asg rfl ?_
  refine ⟨by kernel_rfl, ?_⟩
  refine nx (sl 6 rfl (sl 7 rfl sn)) (el 10 rfl (el 11 rfl (el 12 rfl en))) ?_
  refine tri_ret ?_
  repeat (first | refine pn_thenr ?_ | refine pn_blkr ?_)
  exact ret2 hcx rfl (rv_cell (c' := cx) (n := 0) rfl rfl tyQ rfl) (rv_tmp rfl) (.refl _) en

theorem rat_Add1G {a b c d : Int} {k l : Nat} (hb : 0 < b) (hd : 0 < d) (hk : k ≤ 17179869184) (hl : l ≤ 17179869184) : Fn Tryz.prog 187 [T.fp (T.Qi a b k), T.fp (T.Qi c d l)] [] [] [] (T.Q ((a : Rat) / (b : Rat) + ((c : Rat) / (d : Rat))) (3 * (k + l) + 1)) := by
  refine fn_of Tryz.func187 rfl (by show 2 ≤ 20; decide) fun cx hcx => ?_
  refine tri_sub (sl 0 rfl (sl 1 rfl sn)) en ?_
  have hb0 : b ≠ 0 := by omega
  have hd0 : d ≠ 0 := by omega
  have hbd0 : b * d ≠ 0 := Int.mul_ne_zero hb0 hd0
  refine tri_seq ?_
  refine tri_reg mixed hcx ?_ _ _
  refine nw 10 zeQ ?_
  refine ⟨by kernel_rfl, ?_⟩
  refine nx (sl 0 rfl (sl 1 rfl (sl 2 rfl sn))) (el 10 rfl en) ?_
  refine tri_seq ?_
  refine tri_reg mixed hcx ?_ _ _
  refine ff rfl fNum rfl ?_
  refine lf rfl tyZ ?_
  refine ff rfl fDen rfl ?_
  refine lf rfl tyZ ?_
  refine ca rfl (h := zi_Mul (by omega) (by omega)) (hn := ?_)
  refine ff rfl fNum rfl ?_
  refine lf rfl tyZ ?_
  refine ff rfl fDen rfl ?_
  refine lf rfl tyZ ?_
  refine ca rfl (h := zi_Mul (by omega) (by omega)) (hn := ?_)
  refine ca rfl (h := zi_Add (by omega) (by omega)) (hn := ?_)
  refine ff rfl fDen rfl ?_
  refine lf rfl tyZ ?_
  refine ff rfl fDen rfl ?_
  refine lf rfl tyZ ?_
  refine ca rfl (h := zi_Mul (by omega) (by omega)) (hn := ?_)
  refine ca rfl (h := rat_mk (by assumption) (by omega) (by omega)) (hn := ?_)
  refine st rfl rfl rfl tyQ rfl ?_
  refine ⟨by kernel_rfl, ?_⟩
  refine nx (sl 2 rfl sn) (el 10 rfl en) ?_
  refine tri_ret ?_
  repeat (first | refine pn_thenr ?_ | refine pn_blkr ?_)
  exact ret1 hcx rfl (rv_cell (c' := cx) (n := 0) rfl rfl tyQ rfl) (q_eq (rat_addG hb0 hd0) (by omega)) en

theorem rat_AddG {a b c d : Int} {k l : Nat} (hb : 0 < b) (hd : 0 < d) (hk : k ≤ 17179869184) (hl : l ≤ 17179869184) : Fn Tryz.prog 161 [T.Qi a b k, T.Qi c d l] [] [] [] (T.tup [T.Q ((a : Rat) / (b : Rat) + ((c : Rat) / (d : Rat))) (3 * (k + l) + 1), T.c (.int .i64 0)]) := by
  refine fn_of Tryz.func161 rfl (by show 2 ≤ 12; decide) fun cx hcx => ?_
  refine tri_sub (sl 0 rfl (sl 1 rfl sn)) en ?_
  have hfn := rat_Add1G (a := a) (b := b) (c := c) (d := d) hb hd hk hl
  have hclo := clo_le (f := 187) (Cs := [T.fp (T.Qi a b k), T.fp (T.Qi c d l)]) (h := rfl)
  refine tri_seq ?_
  refine tri_reg mixed hcx ?_ _ _
  refine bxs 10 rfl ?_
  refine bxs 11 rfl ?_
  refine nw 12 zeQ ?_
  refine asg rfl ?_
  refine ⟨by kernel_rfl, ?_⟩
  refine nx (sl 2 rfl (sl 3 rfl (sl 4 rfl sn))) (el 10 rfl (el 11 rfl (el 12 rfl en))) ?_
  refine tri_seq ?_
  refine tri_fzb 2 10 rfl rfl (by show (4 : Nat) ≠ 0; decide) ?_
  refine tri_fzb 3 11 rfl rfl (by show (4 : Nat) ≠ 0; decide) ?_
  refine tri_sub (sl 2 rfl (sl 3 rfl (sl 4 rfl sn))) (el 12 rfl en) ?_
  refine tri_reg mixed hcx ?_ _ _
  refine lf rfl tyQ ?_
  refine lf rfl tyQ ?_
  refine mf rfl ?_
  refine ca rfl (h := rat_twoG hb hd hfn (by intro a w; kernel_rfl) rfl (by omega) (by omega)) (hn := ?_)
  refine ex rfl rfl ?_
  refine ex rfl rfl ?_
  refine st rfl rfl rfl tyQ rfl ?_
  refine asg rfl ?_
  refine ⟨by kernel_rfl, ?_⟩
  refine nx (sl 4 rfl (sl 5 rfl sn)) (el 12 rfl en) ?_
  refine tri_ret ?_
  repeat (first | refine pn_thenr ?_ | refine pn_blkr ?_)
  exact ret2 hcx rfl (rv_cell (c' := cx) (n := 0) rfl rfl tyQ rfl) (rv_tmp rfl) (.refl _) en

theorem rat_Sub1G {a b c d : Int} {k l : Nat} (hb : 0 < b) (hd : 0 < d) (hk : k ≤ 17179869184) (hl : l ≤ 17179869184) : Fn Tryz.prog 177 [T.fp (T.Qi a b k), T.fp (T.Qi c d l)] [] [] [] (T.Q ((a : Rat) / (b : Rat) - ((c : Rat) / (d : Rat))) (3 * (k + l) + 1)) := by
  refine fn_of Tryz.func177 rfl (by show 2 ≤ 20; decide) fun cx hcx => ?_
  refine tri_sub (sl 0 rfl (sl 1 rfl sn)) en ?_
  have hb0 : b ≠ 0 := by omega
  have hd0 : d ≠ 0 := by omega
  have hbd0 : b * d ≠ 0 := Int.mul_ne_zero hb0 hd0
  refine tri_seq ?_
  refine tri_reg mixed hcx ?_ _ _
  refine nw 10 zeQ ?_
  refine ⟨by kernel_rfl, ?_⟩
  refine nx (sl 0 rfl (sl 1 rfl (sl 2 rfl sn))) (el 10 rfl en) ?_
  refine tri_seq ?_
  refine tri_reg mixed hcx ?_ _ _
  refine ff rfl fNum rfl ?_
  refine lf rfl tyZ ?_
  refine ff rfl fDen rfl ?_
  refine lf rfl tyZ ?_
  refine ca rfl (h := zi_Mul (by omega) (by omega)) (hn := ?_)
  refine ff rfl fNum rfl ?_
  refine lf rfl tyZ ?_
  refine ff rfl fDen rfl ?_
  refine lf rfl tyZ ?_
  refine ca rfl (h := zi_Mul (by omega) (by omega)) (hn := ?_)
  refine ca rfl (h := zi_Sub (by omega) (by omega)) (hn := ?_)
  refine ff rfl fDen rfl ?_
  refine lf rfl tyZ ?_
  refine ff rfl fDen rfl ?_
  refine lf rfl tyZ ?_
  refine ca rfl (h := zi_Mul (by omega) (by omega)) (hn := ?_)
  refine ca rfl (h := rat_mk (by assumption) (by omega) (by omega)) (hn := ?_)
  refine st rfl rfl rfl tyQ rfl ?_
  refine ⟨by kernel_rfl, ?_⟩
  refine nx (sl 2 rfl sn) (el 10 rfl en) ?_
  refine tri_ret ?_
  repeat (first | refine pn_thenr ?_ | refine pn_blkr ?_)
  exact ret1 hcx rfl (rv_cell (c' := cx) (n := 0) rfl rfl tyQ rfl) (q_eq (rat_subG hb0 hd0) (by omega)) en

theorem rat_SubG {a b c d : Int} {k l : Nat} (hb : 0 < b) (hd : 0 < d) (hk : k ≤ 17179869184) (hl : l ≤ 17179869184) : Fn Tryz.prog 140 [T.Qi a b k, T.Qi c d l] [] [] [] (T.tup [T.Q ((a : Rat) / (b : Rat) - ((c : Rat) / (d : Rat))) (3 * (k + l) + 1), T.c (.int .i64 0)]) := by
  refine fn_of Tryz.func140 rfl (by show 2 ≤ 12; decide) fun cx hcx => ?_
  refine tri_sub (sl 0 rfl (sl 1 rfl sn)) en ?_
  have hfn := rat_Sub1G (a := a) (b := b) (c := c) (d := d) hb hd hk hl
  have hclo := clo_le (f := 177) (Cs := [T.fp (T.Qi a b k), T.fp (T.Qi c d l)]) (h := rfl)
  refine tri_seq ?_
  refine tri_reg mixed hcx ?_ _ _
  refine bxs 10 rfl ?_
  refine bxs 11 rfl ?_
  refine nw 12 zeQ ?_
  refine asg rfl ?_
  refine ⟨by kernel_rfl, ?_⟩
  refine nx (sl 2 rfl (sl 3 rfl (sl 4 rfl sn))) (el 10 rfl (el 11 rfl (el 12 rfl en))) ?_
  refine tri_seq ?_
  refine tri_fzb 2 10 rfl rfl (by show (4 : Nat) ≠ 0; decide) ?_
  refine tri_fzb 3 11 rfl rfl (by show (4 : Nat) ≠ 0; decide) ?_
  refine tri_sub (sl 2 rfl (sl 3 rfl (sl 4 rfl sn))) (el 12 rfl en) ?_
  refine tri_reg mixed hcx ?_ _ _
  refine lf rfl tyQ ?_
  refine lf rfl tyQ ?_
  refine mf rfl ?_
  refine ca rfl (h := rat_twoG hb hd hfn (by intro a w; kernel_rfl) rfl (by omega) (by omega)) (hn := ?_)
  refine ex rfl rfl ?_
  refine ex rfl rfl ?_
  refine st rfl rfl rfl tyQ rfl ?_
  refine asg rfl ?_
  refine ⟨by kernel_rfl, ?_⟩
  refine nx (sl 4 rfl (sl 5 rfl sn)) (el 12 rfl en) ?_
  refine tri_ret ?_
  repeat (first | refine pn_thenr ?_ | refine pn_blkr ?_)
  exact ret2 hcx rfl (rv_cell (c' := cx) (n := 0) rfl rfl tyQ rfl) (rv_tmp rfl) (.refl _) en

theorem rat_Mul1G {a b c d : Int} {k l : Nat} (hb : 0 < b) (hd : 0 < d) (hk : k ≤ 17179869184) (hl : l ≤ 17179869184) : Fn Tryz.prog 186 [T.fp (T.Qi a b k), T.fp (T.Qi c d l)] [] [] [] (T.Q ((a : Rat) / (b : Rat) * ((c : Rat) / (d : Rat))) (2 * (k + l))) := by
  refine fn_of Tryz.func186 rfl (by show 2 ≤ 14; decide) fun cx hcx => ?_
  refine tri_sub (sl 0 rfl (sl 1 rfl sn)) en ?_
  have hb0 : b ≠ 0 := by omega
  have hd0 : d ≠ 0 := by omega
  have hbd0 : b * d ≠ 0 := Int.mul_ne_zero hb0 hd0
  refine tri_seq ?_
  refine tri_reg mixed hcx ?_ _ _
  refine nw 10 zeQ ?_
  refine ⟨by kernel_rfl, ?_⟩
  refine nx (sl 0 rfl (sl 1 rfl (sl 2 rfl sn))) (el 10 rfl en) ?_
  refine tri_seq ?_
  refine tri_reg mixed hcx ?_ _ _
  refine ff rfl fNum rfl ?_
  refine lf rfl tyZ ?_
  refine ff rfl fNum rfl ?_
  refine lf rfl tyZ ?_
  refine ca rfl (h := zi_Mul (by omega) (by omega)) (hn := ?_)
  refine ff rfl fDen rfl ?_
  refine lf rfl tyZ ?_
  refine ff rfl fDen rfl ?_
  refine lf rfl tyZ ?_
  refine ca rfl (h := zi_Mul (by omega) (by omega)) (hn := ?_)
  refine ca rfl (h := rat_mk (by assumption) (by omega) (by omega)) (hn := ?_)
  refine st rfl rfl rfl tyQ rfl ?_
  refine ⟨by kernel_rfl, ?_⟩
  refine nx (sl 2 rfl sn) (el 10 rfl en) ?_
  refine tri_ret ?_
  repeat (first | refine pn_thenr ?_ | refine pn_blkr ?_)
  exact ret1 hcx rfl (rv_cell (c' := cx) (n := 0) rfl rfl tyQ rfl) (q_eq (rat_mulG _ _ _ _) (by omega)) en

theorem rat_MulG {a b c d : Int} {k l : Nat} (hb : 0 < b) (hd : 0 < d) (hk : k ≤ 17179869184) (hl : l ≤ 17179869184) : Fn Tryz.prog 160 [T.Qi a b k, T.Qi c d l] [] [] [] (T.tup [T.Q ((a : Rat) / (b : Rat) * ((c : Rat) / (d : Rat))) (2 * (k + l)), T.c (.int .i64 0)]) := by
  refine fn_of Tryz.func160 rfl (by show 2 ≤ 12; decide) fun cx hcx => ?_
  refine tri_sub (sl 0 rfl (sl 1 rfl sn)) en ?_
  have hfn := rat_Mul1G (a := a) (b := b) (c := c) (d := d) hb hd hk hl
  have hclo := clo_le (f := 186) (Cs := [T.fp (T.Qi a b k), T.fp (T.Qi c d l)]) (h := rfl)
  refine tri_seq ?_
  refine tri_reg mixed hcx ?_ _ _
  refine bxs 10 rfl ?_
  refine bxs 11 rfl ?_
  refine nw 12 zeQ ?_
  refine asg rfl ?_
  refine ⟨by kernel_rfl, ?_⟩
  refine nx (sl 2 rfl (sl 3 rfl (sl 4 rfl sn))) (el 10 rfl (el 11 rfl (el 12 rfl en))) ?_
  refine tri_seq ?_
  refine tri_fzb 2 10 rfl rfl (by show (4 : Nat) ≠ 0; decide) ?_
  refine tri_fzb 3 11 rfl rfl (by show (4 : Nat) ≠ 0; decide) ?_
  refine tri_sub (sl 2 rfl (sl 3 rfl (sl 4 rfl sn))) (el 12 rfl en) ?_
  refine tri_reg mixed hcx ?_ _ _
  refine lf rfl tyQ ?_
  refine lf rfl tyQ ?_
  refine mf rfl ?_
  refine ca rfl (h := rat_twoG hb hd hfn (by intro a w; kernel_rfl) rfl (by omega) (by omega)) (hn := ?_)
  refine ex rfl rfl ?_
  refine ex rfl rfl ?_
  refine st rfl rfl rfl tyQ rfl ?_
  refine asg rfl ?_
  refine ⟨by kernel_rfl, ?_⟩
  refine nx (sl 4 rfl (sl 5 rfl sn)) (el 12 rfl en) ?_
  refine tri_ret ?_
  repeat (first | refine pn_thenr ?_ | refine pn_blkr ?_)
  exact ret2 hcx rfl (rv_cell (c' := cx) (n := 0) rfl rfl tyQ rfl) (rv_tmp rfl) (.refl _) en

end Go.Proofs.YtekghdfbhbhigaaGreat.V
/- A point along a row. -/
set_option linter.unusedVariables false
set_option linter.unusedSimpArgs false
set_option maxRecDepth 100000
namespace Go.Proofs.YtekghdfbhbhigaaGreat.V
open Go.RowKit Mt Nml
theorem den_p' (q : Rat) : 0 < ((q.den : Int)) := Int.natCast_pos.2 q.den_pos

end Go.Proofs.YtekghdfbhbhigaaGreat.V
/- Fractions by what they are worth. -/
set_option linter.unusedVariables false
set_option linter.unusedSimpArgs false
set_option maxRecDepth 100000
namespace Go.Proofs.YtekghdfbhbhigaaGreat.V
open Go.RowKit Mt Nml
/-- A fraction by what it is worth, however told. -/
def T.V (q : Rat) (k : Nat) : T := T.ex 4 true (fun p : Int × Int => 0 < p.2 ∧ (p.1 : Rat) / (p.2 : Rat) = q ∧ zl p.1 ≤ k ∧ zl p.2 ≤ k) (fun p => T.Qi p.1 p.2 k) (fun _ => ⟨rfl, rfl, rfl⟩)
theorem zi_zl {z : Int} {k : Nat} {β : Env} {u : World} {v : Value} (h : (T.Zi z k).rep β u v) : zl z ≤ k := by
  obtain ⟨i, ⟨k1, k2, k3⟩, _⟩ := h
  obtain ⟨M, hM⟩ := Int.eq_ofNat_of_zero_le (val_nonneg k1)
  rw [k2, hM]
  exact z_bd (s := i.1) k1 hM k3
theorem qi_v {a b : Int} {q : Rat} {k k' : Nat} (hb : 0 < b) (e : (a : Rat) / (b : Rat) = q) (hk : k ≤ k') : (T.Qi a b k).le (T.V q k') := fun β u v h => by
  have h2 := h
  obtain ⟨cs, e1, v1, r1, z1, h1, e2, v2, r2, z2, h3, _⟩ := h
  exact ⟨(a, b), ⟨hb, e, Nat.le_trans (zi_zl h1) hk, Nat.le_trans (zi_zl h3) hk⟩, qi_mono hk _ _ _ h2⟩
theorem q_v (q : Rat) {k k' : Nat} (hk : k ≤ k') : (T.Q q k).le (T.V q k') := (q_qi q hk).trans (qi_v (den_p' q) (rat_nd q) (Nat.le_refl _))
theorem q_v' (q : Rat) (k : Nat) : (T.Q q k).le (T.V q k) := q_v q (Nat.le_refl _)
theorem q_vq {q q' : Rat} {k k' : Nat} (e : q = q') (h : QB q' k') : (T.Q q k).le (T.V q' k') := (q_qb e h).trans (q_v' _ _)
theorem qi_v' {a b : Int} {k : Nat} (hb : 0 < b) : (T.Qi a b k).le (T.V ((a : Rat) / (b : Rat)) k) := qi_v hb rfl (Nat.le_refl _)
theorem cqi_v {p : Int × Int} {k : Nat} (hb : 0 < p.2) : ((cQi k).X p).le (T.V ((p.1 : Rat) / (p.2 : Rat)) k) := qi_v hb rfl (Nat.le_refl _)
theorem fn_v {P : Program} {f : FuncId} {q : Rat} {k : Nat} (As : List T) {Bs : List T} {Ei Eo : List (Nat × Ent)} {N : List Nat} {R : T} (h : ∀ p : Int × Int, 0 < p.2 → (p.1 : Rat) / (p.2 : Rat) = q → zl p.1 ≤ k → zl p.2 ≤ k → Fn P f (As ++ T.Qi p.1 p.2 k :: Bs) Ei Eo N R) : Fn P f (As ++ T.V q k :: Bs) Ei Eo N R := fn_ex fun p ⟨h1, h2, h3, h4⟩ => h p h1 h2 h3 h4
theorem QB.addv {a b c d : Int} {x y : Rat} {k l : Nat} (hb : 0 < b) (hd : 0 < d) (e : (a : Rat) / (b : Rat) = x) (e2 : (c : Rat) / (d : Rat) = y) (h1 : zl a ≤ k) (h2 : zl b ≤ k) (h3 : zl c ≤ l) (h4 : zl d ≤ l) : QB (x + y) (k + l + 1) := by
  rw [← e, ← e2, ← rat_addG (by omega) (by omega)]
  have h5 := zl_mul h1 h4
  have h6 := zl_mul h3 h2
  have := qb_div (zl_add_max h5 (by rw [Nat.add_comm]; exact h6)) (zl_mul h2 h4) (Int.mul_ne_zero (by omega) (by omega))
  exact QB.mono this (by omega)
theorem QB.subv {a b c d : Int} {x y : Rat} {k l : Nat} (hb : 0 < b) (hd : 0 < d) (e : (a : Rat) / (b : Rat) = x) (e2 : (c : Rat) / (d : Rat) = y) (h1 : zl a ≤ k) (h2 : zl b ≤ k) (h3 : zl c ≤ l) (h4 : zl d ≤ l) : QB (x - y) (k + l + 1) := by
  rw [← e, ← e2, ← rat_subG (by omega) (by omega)]
  have h5 := zl_mul h1 h4
  have h6 := zl_mul h3 h2
  have := qb_div (zl_sub_max h5 (by rw [Nat.add_comm]; exact h6)) (zl_mul h2 h4) (Int.mul_ne_zero (by omega) (by omega))
  exact QB.mono this (by omega)
theorem QB.mulv {a b c d : Int} {x y : Rat} {k l : Nat} (hb : 0 < b) (hd : 0 < d) (e : (a : Rat) / (b : Rat) = x) (e2 : (c : Rat) / (d : Rat) = y) (h1 : zl a ≤ k) (h2 : zl b ≤ k) (h3 : zl c ≤ l) (h4 : zl d ≤ l) : QB (x * y) (k + l) := by
  rw [← e, ← e2, ← rat_mulG]
  have := qb_div (zl_mul h1 h3) (zl_mul h2 h4) (Int.mul_ne_zero (show b ≠ 0 by omega) (show d ≠ 0 by omega))
  exact QB.mono this (by omega)
theorem rv_Add {x y : Rat} {k l : Nat} (hk : k ≤ 17179869184) (hl : l ≤ 17179869184) : Fn Tryz.prog 161 [T.V x k, T.V y l] [] [] [] (T.tup [T.Q (x + y) (k + l + 1), T.c (.int .i64 0)]) := fn_v [] fun p p1 p2 p3 p4 => fn_v [T.Qi p.1 p.2 k] (Bs := []) fun q q1 q2 q3 q4 => fn_out (rat_AddG p1 q1 hk hl) (tup_le ⟨q_qb (by rw [p2, q2]) (QB.addv p1 q1 p2 q2 p3 p4 q3 q4), .refl _, trivial⟩)

theorem rv_Sub {x y : Rat} {k l : Nat} (hk : k ≤ 17179869184) (hl : l ≤ 17179869184) : Fn Tryz.prog 140 [T.V x k, T.V y l] [] [] [] (T.tup [T.Q (x - y) (k + l + 1), T.c (.int .i64 0)]) := fn_v [] fun p p1 p2 p3 p4 => fn_v [T.Qi p.1 p.2 k] (Bs := []) fun q q1 q2 q3 q4 => fn_out (rat_SubG p1 q1 hk hl) (tup_le ⟨q_qb (by rw [p2, q2]) (QB.subv p1 q1 p2 q2 p3 p4 q3 q4), .refl _, trivial⟩)

theorem rv_Mul {x y : Rat} {k l : Nat} (hk : k ≤ 17179869184) (hl : l ≤ 17179869184) : Fn Tryz.prog 160 [T.V x k, T.V y l] [] [] [] (T.tup [T.Q (x * y) (k + l), T.c (.int .i64 0)]) := fn_v [] fun p p1 p2 p3 p4 => fn_v [T.Qi p.1 p.2 k] (Bs := []) fun q q1 q2 q3 q4 => fn_out (rat_MulG p1 q1 hk hl) (tup_le ⟨q_qb (by rw [p2, q2]) (QB.mulv p1 q1 p2 q2 p3 p4 q3 q4), .refl _, trivial⟩)

section
variable {P : Program} {ops : Array Oper} {fin : List OpS → List (Nat × T) → List (Nat × Option Ent) → Prop} {r : List Oper} {H : List OpS} {g : List (Nat × T)} {E : List (Nat × Option Ent)} {o : Oper}
variable {t : Option Nat} {ty : TypeId} {ps : String} {af : Array Edge} {gd : Option (Nat × Bool)} {x y : Operand} {X Y : T} {e off m : Nat} {b : Bool} {l l' : List T} {et : TypeId}
variable {α : Type} {c : Cod α} {xs ys : List α}
/-- A call; fractions are told by what they are worth. -/
theorem cb {f : FuncId} {zs : Array Operand} {tys : Array TypeId} {As Bs : List T} (hA : envs g zs.toList = some As)
    (hl : LeL As Bs := by repeat (first | exact trivial | refine ⟨?_, ?_⟩ | exact q_v' _ _ | exact T.le.refl _ | exact qi_v' (by assumption) | exact cqi_v (by assumption) | exact IsZ.le | exact IsL2.le | exact IsL.le | exact q_le _ _ | assumption))
    (h : Fn P f Bs [] [] [] X) (hn : J P ops fin r (OpS.p X :: H) (putg t X g) E) (hen : Enters P f := by intro a w; kernel_rfl)
    (hg : GuardIs ops g ⟨t, .call ⟨.value (.func f), zs, tys⟩, ty, ps, af, gd⟩ true := by exact gd0) : J P ops fin (⟨t, .call ⟨.value (.func f), zs, tys⟩, ty, ps, af, gd⟩ :: r) H g E :=
  cl hA (fn_le h hl) hn hen hg
end
theorem box_q {et : TypeId} {q q' : Rat} {k k' : Nat} (h : (T.Q q k).le (T.Q q' k')) : (Ent.box et [T.Q q k]).le (Ent.box et [T.Q q' k']) := box_pack1 h
def nd (q : Rat) : Int × Int := (q.num, (q.den : Int))
end Go.Proofs.YtekghdfbhbhigaaGreat.V
/- A logic of calls: pointers that are none, and those that are not. -/
set_option linter.unusedVariables false
set_option linter.unusedSimpArgs false
namespace Go.Proofs.YtekghdfbhbhigaaGreat.V
open Go.RowKit Mt Nml
section
variable {P : Program} {ops : Array Oper} {fin : List OpS → List (Nat × T) → List (Nat × Option Ent) → Prop} {r : List Oper} {H : List OpS} {g : List (Nat × T)} {E : List (Nat × Option Ent)} {o : Oper}
variable {t : Option Nat} {ty : TypeId} {ps : String} {af : Array Edge} {gd : Option (Nat × Bool)} {x y : Operand} {X Y : T} {e off m : Nat} {b : Bool} {l l' : List T} {et : TypeId}
/-- A pointer that is not none. -/
class NN (X : T) : Prop where nn : ∀ {β u v}, X.rep β u v → ∃ a, v = .pointer (some a)
instance (X : T) : NN (T.fp X) := ⟨fun ⟨a, _, h, _⟩ => ⟨a, h⟩⟩
instance (e off : Nat) : NN (T.p e off) := ⟨fun ⟨b, _, h⟩ => ⟨_, h⟩⟩
end
end Go.Proofs.YtekghdfbhbhigaaGreat.V
/- The nearest point's coefficients as plain sums: what stands along each star, and the way back. -/
set_option linter.unusedVariables false
set_option maxRecDepth 100000
namespace Go.Proofs.YtekghdfbhbhigaaGreat.V
open Go.RowKit Mt Nml
def muq (D : List Int) (L : List (List Int)) (i j : Nat) : Rat := (((L.getD i []).getD j 0 : Int) : Rat) / ((D.getD (j + 1) 0 : Int) : Rat)
def stq (D : List Int) (i : Nat) : Rat := ((D.getD (i + 1) 0 : Int) : Rat) / ((D.getD i 0 : Int) : Rat)
/-- What is left of a number of the point, after i rows. -/
def lq (b : List (List Int)) (c : List Rat) (d : Rat) (k : Nat) : Nat → Rat
  | 0 => d
  | i + 1 => lq b c d k i - c.getD i 0 * (((b.getD i []).getD k 0 : Int) : Rat)
def hq (b : List (List Int)) (c : List Rat) (ts : List (Int × Int)) (n : Nat) : Nat → Rat
  | 0 => 0
  | k + 1 => hq b c ts n k + lq b c (((ts.getD k (0, 0)).1 : Rat) / ((ts.getD k (0, 0)).2 : Rat)) k n * lq b c (((ts.getD k (0, 0)).1 : Rat) / ((ts.getD k (0, 0)).2 : Rat)) k n
end Go.Proofs.YtekghdfbhbhigaaGreat.V
/- Sizes by a common denominator. -/
set_option linter.unusedVariables false
set_option maxRecDepth 100000
namespace Go.Proofs.YtekghdfbhbhigaaGreat.V
open Go.RowKit Mt Nml
/-- Times d it is a whole number of at most A limbs. -/
def QC (q : Rat) (d : Int) (A : Nat) : Prop := ∃ n : Int, q * (d : Rat) = (n : Rat) ∧ zl n ≤ A
theorem QC.mono {q : Rat} {d : Int} {A B : Nat} (h : QC q d A) (hA : A ≤ B) : QC q d B := by
  obtain ⟨n, h1, h2⟩ := h
  exact ⟨n, h1, Nat.le_trans h2 hA⟩
theorem QC.add {q r : Rat} {d : Int} {A B : Nat} (h : QC q d A) (k : QC r d B) : QC (q + r) d (max A B + 1) := by
  obtain ⟨n, h1, h2⟩ := h
  obtain ⟨m, k1, k2⟩ := k
  exact ⟨n + m, by rw [Rat.add_mul, h1, k1, Rat.intCast_add], zl_add_max (Nat.le_trans h2 (Nat.le_max_left _ _)) (Nat.le_trans k2 (Nat.le_max_right _ _))⟩
theorem QC.neg {q : Rat} {d : Int} {A : Nat} (h : QC q d A) : QC (-q) d A := by
  obtain ⟨n, h1, h2⟩ := h
  exact ⟨-n, by rw [Rat.neg_mul, h1, Rat.intCast_neg], by unfold zl at h2 ⊢; rw [Int.natAbs_neg]; exact h2⟩
theorem QC.sub {q r : Rat} {d : Int} {A B : Nat} (h : QC q d A) (k : QC r d B) : QC (q - r) d (max A B + 1) := by
  rw [Rat.sub_eq_add_neg]
  exact h.add k.neg
theorem QC.mul {q r : Rat} {d e : Int} {A B : Nat} (h : QC q d A) (k : QC r e B) : QC (q * r) (d * e) (A + B) := by
  obtain ⟨n, h1, h2⟩ := h
  obtain ⟨m, k1, k2⟩ := k
  refine ⟨n * m, ?_, zl_mul h2 k2⟩
  rw [Rat.intCast_mul, Rat.intCast_mul, ← h1, ← k1]
  generalize (d : Rat) = x
  generalize (e : Rat) = y
  grind
theorem QC.up {q : Rat} {d : Int} {A : Nat} (h : QC q d A) (e : Int) : QC q (d * e) (A + zl e) := by
  obtain ⟨n, h1, h2⟩ := h
  refine ⟨n * e, ?_, zl_mul h2 (Nat.le_refl _)⟩
  rw [Rat.intCast_mul, Rat.intCast_mul, ← h1]
  generalize (d : Rat) = x
  generalize (e : Rat) = y
  grind
theorem QC.frac {a b : Int} (hb : b ≠ 0) : QC ((a : Rat) / (b : Rat)) b (zl a) := by
  have hne := rat_ne hb
  refine ⟨a, ?_, Nat.le_refl _⟩
  generalize (b : Rat) = y at hne
  grind
theorem QC.int (a : Int) : QC (a : Rat) 1 (zl a) := ⟨a, by rw [show ((1 : Int) : Rat) = 1 from rfl, Rat.mul_one], Nat.le_refl _⟩
end Go.Proofs.YtekghdfbhbhigaaGreat.V
/- The parts along the stars have a common denominator that grows by steps. -/
set_option linter.unusedVariables false
set_option maxRecDepth 100000
namespace Go.Proofs.YtekghdfbhbhigaaGreat.V
open Go.RowKit Mt Nml
end Go.Proofs.YtekghdfbhbhigaaGreat.V
/- The coefficients have a common denominator that grows by steps. -/
set_option linter.unusedVariables false
set_option maxRecDepth 100000
namespace Go.Proofs.YtekghdfbhbhigaaGreat.V
open Go.RowKit Mt Nml
end Go.Proofs.YtekghdfbhbhigaaGreat.V
/- The premises of the sizes: what divides the common denominator. -/
set_option linter.unusedVariables false
set_option maxRecDepth 100000
namespace Go.Proofs.YtekghdfbhbhigaaGreat.V
open Go.RowKit Mt Nml
end Go.Proofs.YtekghdfbhbhigaaGreat.V
/- What is said of rows, but for dependence. -/
set_option linter.unusedVariables false
set_option linter.unusedSimpArgs false
set_option maxRecDepth 100000
namespace Go.Proofs.YtekghdfbhbhigaaGreat.V
open Go.RowKit Mt Nml
/-- A truth value, whichever. -/
def T.tb : T := T.ex 1 false (fun _ : Bool => True) (fun s => T.c (.bool s)) (fun _ => ⟨rfl, rfl, rfl⟩)
theorem tb_of (s : Bool) : (T.c (.bool s)).le T.tb := fun β u v h => ⟨s, trivial, h⟩
theorem iv_abs {s : Bool} {xs : List Int} {z : Int} (h : Lim xs) (hz : z = iv s (val xs)) : val xs = ((z.natAbs : Nat) : Int) := by
  have := val_nonneg h
  subst hz
  unfold iv
  split <;> omega
theorem zi_parts {z : Int} {k : Nat} : (T.Zi z k).le (T.st [T.tb, T.L z.natAbs k]) := fun β u v ⟨i, ⟨h1, h2, h3⟩, cs, e, hc⟩ => ⟨cs, e, cells_le (l := [T.c (.bool i.1), T.l cU i.2]) hc ⟨tb_of i.1, l_L h1 (iv_abs h1 h2) h3, trivial⟩ rfl⟩
instance (z : Int) (k : Nat) : Sp (T.Zi z k) [T.tb, T.L z.natAbs k] := ⟨zi_parts⟩
instance (z : Int) (k : Nat) : Sp ((cZi k).X z) [T.tb, T.L z.natAbs k] := ⟨zi_parts⟩
/-- Rows that are too large: q, are the bits asked? -/
def BigB (b : List (List Int)) (q : Bool) : Prop := 12 < b.length ∨ (q = true ∧ 256 < matB b b.length) ∨ ∃ i, i < b.length ∧ 12 < (b.getD i []).length
/-- Rows of unlike lengths. -/
def BadB (b : List (List Int)) : Prop := ∃ i, i < b.length ∧ (b.getD i []).length ≠ (b.getD 0 []).length
/-- What is said of rows, but for dependence. -/
structure ShR (b : List (List Int)) (q : Bool) (r : Int) : Prop where
  big : BigB b q → r = 40
  nil : ¬ BigB b q → b.length = 0 → r = 41
  bad : ¬ BigB b q → b.length ≠ 0 → BadB b → r = 8
  ok : ¬ BigB b q → b.length ≠ 0 → ¬ BadB b → r = 0
theorem ShR.ex (b : List (List Int)) (q : Bool) : ∃ r, ShR b q r := by
  by_cases h1 : BigB b q
  · exact ⟨40, fun _ => rfl, fun h => absurd h1 h, fun h => absurd h1 h, fun h => absurd h1 h⟩
  · by_cases h2 : b.length = 0
    · exact ⟨41, fun h => absurd h h1, fun _ _ => rfl, fun _ h => absurd h2 h, fun _ h => absurd h2 h⟩
    · by_cases h3 : BadB b
      · exact ⟨8, fun h => absurd h h1, fun _ h => absurd h h2, fun _ _ _ => rfl, fun _ _ h => absurd h3 h⟩
      · exact ⟨0, fun h => absurd h h1, fun _ h => absurd h h2, fun _ _ h => absurd h h3, fun _ _ _ => rfl⟩
theorem mxB_le {l : List Int} {a N : Nat} (ha : a ≤ N) : ∀ {n : Nat}, (∀ k, k < n → nbits (l.getD k 0).natAbs ≤ N) → mxB l a n ≤ N
  | 0, _ => ha
  | n + 1, h => Nat.max_le.2 ⟨mxB_le ha fun k hk => h k (by omega), h n (by omega)⟩
theorem mxB_ge {l : List Int} {a : Nat} : ∀ {n : Nat}, a ≤ mxB l a n
  | 0 => Nat.le_refl _
  | n + 1 => Nat.le_trans mxB_ge (Nat.le_max_left _ _)
theorem mxB_at {l : List Int} {a : Nat} : ∀ {n k : Nat}, k < n → nbits (l.getD k 0).natAbs ≤ mxB l a n
  | n + 1, k, h => by
    rcases Nat.lt_or_eq_of_le (Nat.le_of_lt_succ h) with h1 | h1
    · exact Nat.le_trans (mxB_at h1) (Nat.le_max_left _ _)
    · subst h1; exact Nat.le_max_right _ _
theorem matB_le {b : List (List Int)} {N : Nat} : ∀ {n : Nat}, (∀ i, i < n → ∀ k, k < (b.getD i []).length → nbits ((b.getD i []).getD k 0).natAbs ≤ N) → matB b n ≤ N
  | 0, _ => Nat.zero_le _
  | n + 1, h => mxB_le (matB_le fun i hi => h i (by omega)) (h n (by omega))
theorem matB_at {b : List (List Int)} : ∀ {n i k : Nat}, i < n → k < (b.getD i []).length → nbits ((b.getD i []).getD k 0).natAbs ≤ matB b n
  | n + 1, i, k, hi, hk => by
    rcases Nat.lt_or_eq_of_le (Nat.le_of_lt_succ hi) with h1 | h1
    · exact Nat.le_trans (matB_at h1 hk) mxB_ge
    · subst h1; exact mxB_at hk
end Go.Proofs.YtekghdfbhbhigaaGreat.V
/- Determinants: the numbers that the data of rows are divided to are whole, and the data say what elimination says. -/
set_option linter.unusedVariables false
namespace Go.Proofs.YtekghdfbhbhigaaGreat.V
open Mt Nml
abbrev Rw := Nat → Rat
/-- The sum along a column, row by row. -/
def sm (f : List Rw → Rat) (c : Nat) : List Rw → List Rw → Rat
  | _, [] => 0
  | pre, r :: rest => r c * f (pre ++ rest) - sm f c (pre ++ [r]) rest
/-- The determinant of n rows from column c on. -/
def Dt : Nat → Nat → List Rw → Rat
  | 0, _, _ => 1
  | n + 1, c, l => sm (Dt n (c + 1)) c [] l
def addm (x : Rw) (q : Rat) (y : Rw) : Rw := fun j => x j + q * y j
def LinD (n : Nat) (f : List Rw → Rat) : Prop := ∀ A x y q B, A.length + B.length + 1 = n → f (A ++ addm x q y :: B) = f (A ++ x :: B) + q * f (A ++ y :: B)
def AltD (n : Nat) (f : List Rw → Rat) : Prop := ∀ A x y B, A.length + B.length + 2 = n → f (A ++ x :: y :: B) = -f (A ++ y :: x :: B)
theorem sm_lin_pre {n c : Nat} {f : List Rw → Rat} (hf : LinD n f) {P : List Rw} {x y : Rw} {q : Rat} : ∀ (rest Q : List Rw), P.length + Q.length + rest.length = n → sm f c (P ++ addm x q y :: Q) rest = sm f c (P ++ x :: Q) rest + q * sm f c (P ++ y :: Q) rest
  | [], Q, _ => by show (0 : Rat) = 0 + q * 0; grind
  | r :: rest, Q, h => by
    have e : ∀ z : Rw, sm f c (P ++ z :: Q) (r :: rest) = r c * f (P ++ z :: (Q ++ rest)) - sm f c (P ++ z :: (Q ++ [r])) rest := fun z => by
      show r c * f ((P ++ z :: Q) ++ rest) - sm f c ((P ++ z :: Q) ++ [r]) rest = _
      simp only [List.append_assoc, List.cons_append]
    simp only [List.length_cons] at h
    rw [e, e, e, hf P x y q (Q ++ rest) (by simp only [List.length_append]; omega), sm_lin_pre hf rest (Q ++ [r]) (by simp only [List.length_append, List.length_cons, List.length_nil]; omega)]
    grind
theorem sm_lin {n c : Nat} {f : List Rw → Rat} (hf : LinD n f) {x y : Rw} {q : Rat} {B : List Rw} : ∀ (A pre : List Rw), pre.length + A.length + B.length = n → sm f c pre (A ++ addm x q y :: B) = sm f c pre (A ++ x :: B) + q * sm f c pre (A ++ y :: B)
  | [], pre, h => by
    show (x c + q * y c) * f (pre ++ B) - sm f c (pre ++ [addm x q y]) B = (x c * f (pre ++ B) - sm f c (pre ++ [x]) B) + q * (y c * f (pre ++ B) - sm f c (pre ++ [y]) B)
    rw [sm_lin_pre hf B [] (by simpa using h)]
    grind
  | a :: A, pre, h => by
    simp only [List.length_cons] at h
    have e : ∀ z : Rw, sm f c pre ((a :: A) ++ z :: B) = a c * f ((pre ++ A) ++ z :: B) - sm f c (pre ++ [a]) (A ++ z :: B) := fun z => by
      show a c * f (pre ++ (A ++ z :: B)) - sm f c (pre ++ [a]) (A ++ z :: B) = _
      rw [← List.append_assoc]
    rw [e, e, e, hf (pre ++ A) x y q B (by simp only [List.length_append]; omega), sm_lin hf A (pre ++ [a]) (by simp only [List.length_append, List.length_cons, List.length_nil]; omega)]
    grind
theorem sm_alt_pre {n c : Nat} {f : List Rw → Rat} (hf : AltD n f) {P : List Rw} {x y : Rw} : ∀ (rest Q : List Rw), P.length + Q.length + 1 + rest.length = n → sm f c (P ++ x :: y :: Q) rest = -sm f c (P ++ y :: x :: Q) rest
  | [], Q, _ => by show (0 : Rat) = -0; grind
  | r :: rest, Q, h => by
    have e : ∀ z w : Rw, sm f c (P ++ z :: w :: Q) (r :: rest) = r c * f (P ++ z :: w :: (Q ++ rest)) - sm f c (P ++ z :: w :: (Q ++ [r])) rest := fun z w => by
      show r c * f ((P ++ z :: w :: Q) ++ rest) - sm f c ((P ++ z :: w :: Q) ++ [r]) rest = _
      simp only [List.append_assoc, List.cons_append]
    simp only [List.length_cons] at h
    rw [e, e, hf P x y (Q ++ rest) (by simp only [List.length_append]; omega), sm_alt_pre hf rest (Q ++ [r]) (by simp only [List.length_append, List.length_cons, List.length_nil]; omega)]
    grind
theorem sm_alt {n c : Nat} {f : List Rw → Rat} (hf : AltD n f) {x y : Rw} {B : List Rw} : ∀ (A pre : List Rw), pre.length + A.length + B.length + 1 = n → sm f c pre (A ++ x :: y :: B) = -sm f c pre (A ++ y :: x :: B)
  | [], pre, h => by
    have e : ∀ z w : Rw, sm f c pre (z :: w :: B) = z c * f (pre ++ w :: B) - (w c * f (pre ++ z :: B) - sm f c (pre ++ z :: w :: []) B) := fun z w => by
      show z c * f (pre ++ w :: B) - (w c * f ((pre ++ [z]) ++ B) - sm f c ((pre ++ [z]) ++ [w]) B) = _
      simp only [List.append_assoc, List.cons_append, List.nil_append]
    show sm f c pre (x :: y :: B) = -sm f c pre (y :: x :: B)
    rw [e, e, sm_alt_pre (x := x) (y := y) hf B [] (by simp only [List.length_nil] at h ⊢; omega)]
    grind
  | a :: A, pre, h => by
    simp only [List.length_cons] at h
    have e : ∀ z w : Rw, sm f c pre ((a :: A) ++ z :: w :: B) = a c * f ((pre ++ A) ++ z :: w :: B) - sm f c (pre ++ [a]) (A ++ z :: w :: B) := fun z w => by
      show a c * f (pre ++ (A ++ z :: w :: B)) - sm f c (pre ++ [a]) (A ++ z :: w :: B) = _
      rw [← List.append_assoc]
    rw [e, e, hf (pre ++ A) x y B (by simp only [List.length_append]; omega), sm_alt hf A (pre ++ [a]) (by simp only [List.length_append, List.length_cons, List.length_nil]; omega)]
    grind
theorem dt_lin : ∀ n c, LinD n (Dt n c)
  | 0, c => fun A x y q B h => absurd h (by omega)
  | n + 1, c => fun A x y q B h => sm_lin (dt_lin n (c + 1)) A [] (by simp only [List.length_nil]; omega)
theorem dt_alt : ∀ n c, AltD n (Dt n c)
  | 0, c => fun A x y B h => absurd h (by omega)
  | n + 1, c => fun A x y B h => sm_alt (dt_alt n (c + 1)) A [] (by simp only [List.length_nil]; omega)
theorem dup_zero {n : Nat} {f : List Rw → Rat} (hf : AltD n f) {x : Rw} {C : List Rw} : ∀ (B A : List Rw), A.length + B.length + C.length + 2 = n → f (A ++ x :: (B ++ x :: C)) = 0
  | [], A, h => by
    have := hf A x x C (by simp only [List.length_nil] at h; omega)
    show f (A ++ x :: x :: C) = 0
    grind
  | b :: B, A, h => by
    simp only [List.length_cons] at h
    have h1 := hf A x b (B ++ x :: C) (by simp only [List.length_append, List.length_cons]; omega)
    have h2 := dup_zero hf (x := x) (C := C) B (A ++ [b]) (by simp only [List.length_append, List.length_cons, List.length_nil]; omega)
    rw [List.append_assoc] at h2
    show f (A ++ x :: b :: (B ++ x :: C)) = 0
    rw [h1]
    show -f (A ++ ([b] ++ x :: (B ++ x :: C))) = 0
    rw [h2]
    grind
def eln (c : Nat) (x r : Rw) : Rw := addm r (-(r c / x c)) x
theorem eln_all {n c : Nat} {x : Rw} : ∀ (l A : List Rw), A.length + l.length + 1 = n → Dt n c (x :: (A ++ l)) = Dt n c (x :: (A ++ l.map (eln c x)))
  | [], A, _ => rfl
  | r :: l, A, h => by
    simp only [List.length_cons] at h
    have h1 := dt_lin n c (x :: A) r x (-(r c / x c)) l (by simp only [List.length_cons]; omega)
    have h2 := dup_zero (dt_alt n c) (x := x) (C := l) A [] (by simp only [List.length_nil]; omega)
    have h3 := eln_all (n := n) (c := c) (x := x) l (A ++ [eln c x r]) (by simp only [List.length_append, List.length_cons, List.length_nil]; omega)
    rw [List.append_assoc, List.append_assoc] at h3
    show Dt n c (x :: (A ++ r :: l)) = Dt n c (x :: (A ++ ([eln c x r] ++ l.map (eln c x))))
    rw [← h3]
    show Dt n c ((x :: A) ++ r :: l) = Dt n c ((x :: A) ++ eln c x r :: l)
    unfold eln
    rw [h1]
    have h2' : Dt n c ((x :: A) ++ x :: l) = 0 := h2
    rw [h2']
    grind
theorem sm_zero {f : List Rw → Rat} {c : Nat} : ∀ (l pre : List Rw), (∀ r ∈ l, r c = 0) → sm f c pre l = 0
  | [], _, _ => rfl
  | r :: l, pre, h => by
    show r c * f (pre ++ l) - sm f c (pre ++ [r]) l = 0
    rw [h r List.mem_cons_self, sm_zero l _ (fun q hq => h q (List.mem_cons_of_mem _ hq))]
    grind
theorem dt_step {n c : Nat} {x : Rw} {l : List Rw} (hx : x c ≠ 0) (hl : l.length = n) : Dt (n + 1) c (x :: l) = x c * Dt n (c + 1) (l.map (eln c x)) := by
  rw [show x :: l = x :: ([] ++ l) from rfl, eln_all l [] (by simp only [List.length_nil]; omega)]
  show x c * Dt n (c + 1) (l.map (eln c x)) - sm (Dt n (c + 1)) c [x] (l.map (eln c x)) = _
  rw [sm_zero _ _ (fun r hr => by
    obtain ⟨q, _, rfl⟩ := List.mem_map.1 hr
    show q c + -(q c / x c) * x c = 0
    rw [Rat.neg_mul, Rat.div_mul_cancel hx]
    grind)]
  grind
/-- The rows behind k steps of elimination. -/
def Mr (g : Nat → Rw) : Nat → Nat → Rw
  | 0, i => g i
  | k + 1, i => eln k (Mr g k k) (Mr g k i)
def pr (g : Nat → Rw) (t : Nat) : Nat → Rat
  | 0 => 1
  | d + 1 => Mr g t t t * pr g (t + 1) d
theorem pr_snoc (g : Nat → Rw) : ∀ d t, pr g t (d + 1) = pr g t d * Mr g (t + d) (t + d) (t + d)
  | 0, t => by show Mr g t t t * 1 = 1 * Mr g (t + 0) (t + 0) (t + 0); rw [Nat.add_zero]; grind
  | d + 1, t => by
    show Mr g t t t * pr g (t + 1) (d + 1) = Mr g t t t * pr g (t + 1) d * _
    rw [pr_snoc g d (t + 1), show t + 1 + d = t + (d + 1) by omega]
    grind
theorem det_M (g : Nat → Rw) (i : Nat) : ∀ d t, (∀ s, t ≤ s → s < t + d → Mr g s s s ≠ 0) → Dt (d + 1) t ((List.range' t d).map (Mr g t) ++ [Mr g t i]) = pr g t d * Mr g (t + d) i (t + d)
  | 0, t, _ => by
    show Mr g t i t * 1 - 0 = 1 * Mr g (t + 0) i (t + 0)
    rw [Nat.add_zero]; grind
  | d + 1, t, h => by
    rw [List.range'_succ, List.map_cons, List.cons_append, dt_step (h t (Nat.le_refl _) (by omega)) (by simp), List.map_append, List.map_map]
    have := det_M g i d (t + 1) (fun s h1 h2 => h s (by omega) (by omega))
    rw [show t + (d + 1) = t + 1 + d by omega]
    show Mr g t t t * Dt (d + 1) (t + 1) (List.map (Mr g (t + 1)) (List.range' (t + 1) d) ++ [Mr g (t + 1) i]) = Mr g t t t * pr g (t + 1) d * _
    rw [this]
    grind
def IsW (q : Rat) : Prop := ∃ z : Int, q = (z : Rat)
theorem IsW.mul {a b : Rat} (h : IsW a) (k : IsW b) : IsW (a * b) := by obtain ⟨x, rfl⟩ := h; obtain ⟨y, rfl⟩ := k; exact ⟨x * y, (Rat.intCast_mul x y).symm⟩
theorem IsW.sub {a b : Rat} (h : IsW a) (k : IsW b) : IsW (a - b) := by obtain ⟨x, rfl⟩ := h; obtain ⟨y, rfl⟩ := k; exact ⟨x - y, (Rat.intCast_sub x y).symm⟩
theorem IsW.one : IsW 1 := ⟨1, rfl⟩
theorem IsW.zero : IsW 0 := ⟨0, rfl⟩
theorem sm_int {f : List Rw → Rat} {c : Nat} (hf : ∀ l : List Rw, (∀ r ∈ l, ∀ j, IsW (r j)) → IsW (f l)) : ∀ (l pre : List Rw), (∀ r ∈ l, ∀ j, IsW (r j)) → (∀ r ∈ pre, ∀ j, IsW (r j)) → IsW (sm f c pre l)
  | [], _, _, _ => IsW.zero
  | r :: l, pre, h, hp => by
    refine ((h r List.mem_cons_self c).mul (hf _ fun q hq => ?_)).sub (sm_int hf l _ (fun q hq => h q (List.mem_cons_of_mem _ hq)) fun q hq => ?_)
    · rcases List.mem_append.1 hq with h1 | h1
      · exact hp q h1
      · exact h q (List.mem_cons_of_mem _ h1)
    · rcases List.mem_append.1 hq with h1 | h1
      · exact hp q h1
      · rw [List.mem_singleton.1 h1]; exact h r List.mem_cons_self
theorem dt_int : ∀ n c (l : List Rw), (∀ r ∈ l, ∀ j, IsW (r j)) → IsW (Dt n c l)
  | 0, _, _, _ => IsW.one
  | n + 1, c, l, h => sm_int (dt_int n (c + 1)) l [] h (fun r hr => by cases hr)
theorem mr_col (g : Nat → Rw) (k j : Nat) : ∀ t, t ≤ k → ∀ i c, Mr (fun s c => if c < k then g s c else g s j) t i c = Mr g t i (if c < k then c else j)
  | 0, _, i, c => by show (if c < k then g i c else g i j) = g i _; split <;> rfl
  | t + 1, h, i, c => by
    have ih := mr_col g k j t (by omega)
    show Mr _ t i c + -(Mr _ t i t / Mr _ t t t) * Mr _ t t c = Mr g t i _ + -(Mr g t i t / Mr g t t t) * Mr g t t _
    rw [ih i c, ih i t, ih t t, ih t c, if_pos (show t < k by omega)]
theorem pr_col (g : Nat → Rw) (k j : Nat) : ∀ d t, t + d ≤ k → pr (fun s c => if c < k then g s c else g s j) t d = pr g t d
  | 0, _, _ => rfl
  | d + 1, t, h => by
    show Mr _ t t t * pr _ (t + 1) d = _ * _
    rw [pr_col g k j d (t + 1) (by omega), mr_col g k j t (by omega) t t, if_pos (show t < k by omega)]
/-- The numerators are whole. -/
theorem minor_int {g : Nat → Rw} (hg : ∀ s c, IsW (g s c)) {k : Nat} (hp : ∀ s, s < k → Mr g s s s ≠ 0) (i j : Nat) : IsW (pr g 0 k * Mr g k i j) := by
  have h := det_M (fun s c => if c < k then g s c else g s j) i k 0 (fun s _ hs => by
    rw [mr_col g k j s (by omega), if_pos (show s < k by omega)]; exact hp s (by omega))
  rw [pr_col g k j k 0 (by omega), Nat.zero_add, mr_col g k j k (Nat.le_refl _), if_neg (Nat.lt_irrefl k)] at h
  rw [← h]
  refine dt_int _ _ _ fun r hr c => ?_
  have hz : ∀ s c, IsW ((fun (s c : Nat) => if c < k then g s c else g s j) s c) := fun s c => by show IsW (if c < k then g s c else g s j); split <;> exact hg _ _
  rcases List.mem_append.1 hr with h1 | h1
  · obtain ⟨q, _, rfl⟩ := List.mem_map.1 h1; exact hz q c
  · rw [List.mem_singleton.1 h1]; exact hz i c
theorem mr_symm {g : Nat → Rw} (hg : ∀ i j, g i j = g j i) : ∀ k i j, Mr g k i j = Mr g k j i
  | 0, i, j => hg i j
  | k + 1, i, j => by
    show Mr g k i j + -(Mr g k i k / Mr g k k k) * Mr g k k j = Mr g k j i + -(Mr g k j k / Mr g k k k) * Mr g k k i
    rw [mr_symm hg k i j, mr_symm hg k k j, mr_symm hg k k i, Rat.div_def, Rat.div_def]
    grind
/-- The products of rows, as fractions. -/
def gU (b : List (List Int)) (i j : Nat) : Int := dotU (b.getD i []) (b.getD j []) (b.getD i []).length
def gR (b : List (List Int)) (i : Nat) : Rw := fun j => ((gU b i j : Int) : Rat)
theorem dotU_comm (xs ys : List Int) : ∀ n, dotU xs ys n = dotU ys xs n
  | 0 => rfl
  | n + 1 => by show dotU xs ys n + _ = dotU ys xs n + _; rw [dotU_comm xs ys n, Int.mul_comm]
/-- Products behind the length are nought. -/
theorem dotU_more {xs ys : List Int} {m : Nat} (h : xs.length ≤ m) : ∀ d, dotU xs ys (m + d) = dotU xs ys m
  | 0 => rfl
  | d + 1 => by
    show dotU xs ys (m + d) + xs.getD (m + d) 0 * _ = _
    rw [dotU_more h d, show xs.getD (m + d) 0 = 0 from by rw [List.getD_eq_getElem?_getD, List.getElem?_eq_none (by omega)]; rfl, Int.zero_mul, Int.add_zero]
theorem gU_symm (b : List (List Int)) (i j : Nat) : gU b i j = gU b j i := by
  unfold gU
  rcases Nat.le_total (b.getD i []).length (b.getD j []).length with h | h
  · obtain ⟨d, hd⟩ := Nat.le.dest h
    rw [← hd, dotU_comm (b.getD j []), dotU_more (Nat.le_refl _) d]
  · obtain ⟨d, hd⟩ := Nat.le.dest h
    rw [← hd, dotU_comm, dotU_more (Nat.le_refl _) d]
theorem gR_symm (b : List (List Int)) (i j : Nat) : gR b i j = gR b j i := by show ((gU b i j : Int) : Rat) = _; rw [gU_symm]; rfl
theorem gR_int (b : List (List Int)) (i j : Nat) : IsW (gR b i j) := ⟨_, rfl⟩
/-- All pivots ahead of n are above nought. -/
def Ok (b : List (List Int)) (n : Nat) : Prop := ∀ k, k < n → 0 < Mr (gR b) k k k
abbrev pb (b : List (List Int)) (k : Nat) : Rat := pr (gR b) 0 k
theorem pb_succ (b : List (List Int)) (k : Nat) : pb b (k + 1) = pb b k * Mr (gR b) k k k := by have := pr_snoc (gR b) k 0; rw [Nat.zero_add] at this; exact this
theorem pb_pos {b : List (List Int)} {n : Nat} (h : Ok b n) : ∀ k, k ≤ n → 0 < pb b k
  | 0, _ => by show (0 : Rat) < 1; decide
  | k + 1, hk => by rw [pb_succ]; exact Rat.mul_pos (pb_pos h k (by omega)) (h k (by omega))
theorem rat_pos_ne {q : Rat} (h : 0 < q) : q ≠ 0 := fun e => by rw [e] at h; exact absurd h (Rat.lt_irrefl)
theorem ok_ne {b : List (List Int)} {n : Nat} (h : Ok b n) {k : Nat} (hk : k < n) : Mr (gR b) k k k ≠ 0 := rat_pos_ne (h k hk)
/-- What the data say, so far. -/
structure DI (b : List (List Int)) (i : Nat) (D : List Int) (L : List (List Int)) : Prop where
  lD : D.length = i + 1
  lL : L.length = i
  ok : Ok b i
  d : ∀ k, k ≤ i → ((D.getD k 0 : Int) : Rat) = pb b k
  lr : ∀ j, j < i → (L.getD j []).length = j
  l : ∀ j k, j < i → k < j → (((L.getD j []).getD k 0 : Int) : Rat) = pb b k * Mr (gR b) k j k
theorem fdiv_exact {x d z : Int} (hd : d ≠ 0) (h : x = d * z) : Int.fdiv x d = z := by subst h; exact Int.mul_fdiv_cancel_left z hd
theorem step_exact {b : List (List Int)} {D Lr row : List Int} {i j k : Nat} {u : Int} (hok : Ok b (k + 1)) (h0 : ((D.getD k 0 : Int) : Rat) = pb b k) (h1 : ((D.getD (k + 1) 0 : Int) : Rat) = pb b (k + 1)) (hu : ((u : Int) : Rat) = pb b k * Mr (gR b) k i j) (hr : ((row.getD k 0 : Int) : Rat) = pb b k * Mr (gR b) k i k) (hl : ((Lr.getD k 0 : Int) : Rat) = pb b k * Mr (gR b) k j k) : ((stepU D Lr row k u : Int) : Rat) = pb b (k + 1) * Mr (gR b) (k + 1) i j := by
  obtain ⟨z, hz⟩ := minor_int (gR_int b) (k := k + 1) (fun s hs => ok_ne hok hs) i j
  have hp := rat_pos_ne (pb_pos hok k (by omega))
  have hm := ok_ne hok (Nat.lt_succ_self k)
  have e : D.getD (k + 1) 0 * u - row.getD k 0 * Lr.getD k 0 = D.getD k 0 * z := by
    refine Rat.intCast_inj.1 ?_
    rw [Rat.intCast_sub, Rat.intCast_mul, Rat.intCast_mul, Rat.intCast_mul, h0, h1, hu, hr, hl, ← hz]
    show pb b (k + 1) * (pb b k * Mr (gR b) k i j) - pb b k * Mr (gR b) k i k * (pb b k * Mr (gR b) k j k) = pb b k * (pb b (k + 1) * (Mr (gR b) k i j + -(Mr (gR b) k i k / Mr (gR b) k k k) * Mr (gR b) k k j))
    rw [pb_succ, mr_symm (gR_symm b) k k j]
    generalize Mr (gR b) k k k = m at hm
    generalize Mr (gR b) k i k = x
    generalize Mr (gR b) k j k = y
    generalize pb b k = p at hp
    grind
  have hd : D.getD k 0 ≠ 0 := fun e0 => by rw [e0] at h0; exact hp h0.symm
  unfold stepU
  rw [fdiv_exact hd e, hz]
theorem red_exact {b : List (List Int)} {D : List Int} {L : List (List Int)} {row : List Int} {i j : Nat} (h : DI b i D L) (hji : j ≤ i) (hr : ∀ k, k < j → ((row.getD k 0 : Int) : Rat) = pb b k * Mr (gR b) k i k) : ∀ k, k ≤ j → ((redU D (pickL L row i j) row (gU b i j) k : Int) : Rat) = pb b k * Mr (gR b) k i j
  | 0, _ => by show ((gU b i j : Int) : Rat) = 1 * ((gU b i j : Int) : Rat); grind
  | k + 1, hk => by
    refine step_exact (fun s hs => h.ok s (by omega)) (h.d k (by omega)) (h.d (k + 1) (by omega)) (red_exact h hji hr k (by omega)) (hr k (by omega)) ?_
    unfold pickL
    split
    · exact h.l j k (by assumption) (by omega)
    · have : j = i := by omega
      subst this; exact hr k (by omega)
theorem row_len {b : List (List Int)} {D : List Int} {L : List (List Int)} {i : Nat} : ∀ j, (rowU b D L i j).length = j
  | 0 => rfl
  | j + 1 => by unfold rowU; rw [List.length_append, row_len j]; rfl
theorem row_exact {b : List (List Int)} {D : List Int} {L : List (List Int)} {i : Nat} (h : DI b i D L) : ∀ j, j ≤ i + 1 → ∀ k, k < j → (((rowU b D L i j).getD k 0 : Int) : Rat) = pb b k * Mr (gR b) k i k
  | 0, _, k, hk => absurd hk (Nat.not_lt_zero _)
  | j + 1, hj, k, hk => by
    unfold rowU
    rcases Nat.lt_or_ge k j with h1 | h1
    · rw [gl_lt (by rw [row_len]; exact h1)]; exact row_exact h j (by omega) k h1
    · rw [gl_eq (by rw [row_len]; omega), show k = j by omega]
      exact red_exact h (by omega) (fun k hk => row_exact h j (by omega) k hk) j (Nat.le_refl _)
theorem row_pos {b : List (List Int)} {D : List Int} {L : List (List Int)} {i : Nat} (h : DI b i D L) : 0 < (rowU b D L i (i + 1)).getD i 0 ↔ 0 < Mr (gR b) i i i := by
  have e := row_exact h (i + 1) (Nat.le_refl _) i (Nat.lt_succ_self i)
  have hp := pb_pos h.ok i (Nat.le_refl _)
  rw [← Rat.intCast_lt_intCast, e]
  show (0 : Rat) < _ ↔ _
  constructor
  · intro h1
    by_cases h2 : 0 < Mr (gR b) i i i
    · exact h2
    · exfalso
      replace h2 := Rat.not_lt.1 h2
      have := Rat.mul_le_mul_of_nonneg_left h2 (Rat.le_of_lt hp)
      rw [Rat.mul_zero] at this
      exact absurd h1 (Rat.not_lt.2 this)
  · exact Rat.mul_pos hp
theorem DI.zero (b : List (List Int)) : DI b 0 [1] [] := ⟨rfl, rfl, fun k hk => absurd hk (Nat.not_lt_zero _), fun k hk => by rw [show k = 0 by omega]; rfl, fun j hj => absurd hj (Nat.not_lt_zero _), fun j k hj => absurd hj (Nat.not_lt_zero _)⟩
theorem DI.step {b : List (List Int)} {D : List Int} {L : List (List Int)} {i : Nat} (h : DI b i D L) (hp : 0 < (rowU b D L i (i + 1)).getD i 0) : DI b (i + 1) (D ++ [(rowU b D L i (i + 1)).getD i 0]) (L ++ [(rowU b D L i (i + 1)).take i]) := by
  have hm := (row_pos h).1 hp
  have hr := row_exact h (i + 1) (Nat.le_refl _)
  refine ⟨by rw [List.length_append, h.lD]; rfl, by rw [List.length_append, h.lL]; rfl, fun k hk => ?_, fun k hk => ?_, fun j hj => ?_, fun j k hj hk => ?_⟩
  · rcases Nat.lt_or_ge k i with h1 | h1
    · exact h.ok k h1
    · rw [show k = i by omega]; exact hm
  · rcases Nat.lt_or_ge k (i + 1) with h1 | h1
    · rw [gl_lt (by rw [h.lD]; exact h1)]; exact h.d k (by omega)
    · rw [gl_eq (by rw [h.lD]; omega), show k = i + 1 by omega, hr i (Nat.lt_succ_self i), pb_succ]
  · rcases Nat.lt_or_ge j i with h1 | h1
    · rw [gl_lt (by rw [h.lL]; exact h1)]; exact h.lr j h1
    · rw [gl_eq (by rw [h.lL]; omega), List.length_take, row_len]; omega
  · rcases Nat.lt_or_ge j i with h1 | h1
    · rw [gl_lt (by rw [h.lL]; exact h1)]; exact h.l j k h1 hk
    · rw [gl_eq (by rw [h.lL]; omega), take_getD (by omega), hr k (by omega), show j = i by omega]
theorem bld_DI {b : List (List Int)} : ∀ {i : Nat} {D : List Int} {L : List (List Int)}, bld b i = some (D, L) → DI b i D L
  | 0, D, L, h => by cases h; exact DI.zero b
  | i + 1, D, L, h => by
    obtain ⟨D', L', h1, h2, h3⟩ := bld_prev h
    cases h3
    exact (bld_DI h1).step h2
theorem bld_of_ok {b : List (List Int)} : ∀ {i : Nat}, Ok b i → ∃ D L, bld b i = some (D, L)
  | 0, _ => ⟨_, _, rfl⟩
  | i + 1, h => by
    obtain ⟨D, L, hD⟩ := bld_of_ok (i := i) (fun k hk => h k (by omega))
    have hp := (row_pos (bld_DI hD)).2 (h i (Nat.lt_succ_self i))
    refine ⟨D ++ [(rowU b D L i (i + 1)).getD i 0], L ++ [(rowU b D L i (i + 1)).take i], ?_⟩
    show (match bld b i with | none => none | some (D, L) => if (rowU b D L i (i + 1)).getD i 0 ≤ 0 then none else some (D ++ [(rowU b D L i (i + 1)).getD i 0], L ++ [(rowU b D L i (i + 1)).take i])) = _
    rw [hD]
    simp only
    rw [if_neg (Int.not_le.2 hp)]
end Go.Proofs.YtekghdfbhbhigaaGreat.V
/- The data of rows, and what refuses them. -/
set_option linter.unusedVariables false
set_option linter.unusedSimpArgs false
set_option maxRecDepth 100000
namespace Go.Proofs.YtekghdfbhbhigaaGreat.V
open Go.RowKit Mt Nml
theorem r05_shape_t {b : List (List Int)} {k : Nat} {r : Int} (hk : k ≤ 1048576) (hbl : b.length ≤ 1048576) (hrr : ∀ i, i < b.length → (b.getD i []).length ≤ 1048576) (hR : ShR b true r) : Fn Tryz.prog 106 [T.l (cL (cZi k)) b, T.c (.bool true)] [] [] [] (T.c (.int .i64 r)) := by
  refine fn_of Tryz.func106 rfl (by show 2 ≤ 64; decide) fun cx hcx => ?_
  refine tri_sub (sl 0 rfl (sl 1 rfl sn)) en ?_
  refine tri_seq ?_
  refine tri_reg mixed hcx ?_ _ _
  refine asg rfl ?_
  refine ⟨by kernel_rfl, ?_⟩
  refine nx (sl 0 rfl (sl 1 rfl sn)) en ?_
  refine tri_seq ?_
  refine tri_seq ?_
  refine tri_reg mixed hcx ?_ _ _
  refine mv rfl ?_
  refine ln slZss rfl ?_
  refine cgt rfl rfl rfl ?_
  refine ⟨by kernel_rfl, ?_⟩
  refine nx (sl 0 rfl (sl 1 rfl (sl 10 rfl sn))) en ?_
  refine tri_if rfl (fun h1 => ?_) (fun h1 => ?_)
  · refine tri_seq ?_
    refine tri_reg mixed hcx ?_ _ _
    refine asg rfl ?_
    refine ⟨by kernel_rfl, ?_⟩
    refine nx (sl 4 rfl sn) en ?_
    refine tri_ret ?_
    repeat (first | refine pn_thenr ?_ | refine pn_blkr ?_)
    exact ret1 hcx rfl (rv_tmp rfl) (ci (hR.big (.inl (by omega))).symm) en
  · refine tri_skip ?_
    refine nx (sl 0 rfl (sl 1 rfl sn)) en ?_
    refine tri_seq ?_
    refine tri_seq ?_
    refine tri_reg mixed hcx ?_ _ _
    refine asg rfl ?_
    refine ⟨by kernel_rfl, ?_⟩
    refine nx (sl 0 rfl (sl 1 rfl (sl 5 rfl sn))) en ?_
    refine tri_block ?_
    refine tri_loop (ι := Nat) (fun i => [(0, T.l (cL (cZi k)) b), (1, T.c (.bool true)), (5, T.c (.int .i64 (i : Int)))]) (fun i => []) (fun i => b.length - i) (fun i => (i ≤ b.length) ∧ (∀ j, j < i → (b.getD j []).length ≤ 12 ∧ (true = true → ∀ k2, k2 < (b.getD j []).length → nbits ((b.getD j []).getD k2 0).natAbs ≤ 256))) 0 ⟨Nat.zero_le _, fun j hj => absurd hj (Nat.not_lt_zero _)⟩ (sl 0 rfl (sl 1 rfl (sl 5 rfl sn))) en ?_
    rintro i ⟨hi, hA⟩
    refine tri_sub (sl 0 rfl (sl 1 rfl (sl 5 rfl sn))) en ?_
    refine tri_seq ?_
    refine tri_seq ?_
    refine tri_reg mixed hcx ?_ _ _
    refine mv rfl ?_
    refine mv rfl ?_
    refine ln slZss rfl ?_
    refine clt rfl rfl rfl ?_
    refine ⟨by kernel_rfl, ?_⟩
    refine nx (sl 0 rfl (sl 1 rfl (sl 5 rfl (sl 14 rfl sn)))) en ?_
    refine tri_if rfl (fun hc => ?_) (fun hc => ?_)
    · have hmi : (b.getD i (cL (cZi k)).dflt).length ≤ 1048576 := hrr i (by omega)
      have hmi2 : (b.getD i []).length ≤ 1048576 := hmi
      refine tri_skip ?_
      refine nx (sl 0 rfl (sl 1 rfl (sl 5 rfl sn))) en ?_
      refine tri_seq ?_
      refine tri_block ?_
      refine tri_seq ?_
      refine tri_seq ?_
      refine tri_reg mixed hcx ?_ _ _
      refine mv rfl ?_
      refine mv rfl ?_
      refine ix rfl rfl slZss ⟨rfl, by omega⟩ ?_
      refine lf rfl tyZs ?_
      refine ln slZs rfl ?_
      refine cgt rfl rfl rfl ?_
      refine ⟨by kernel_rfl, ?_⟩
      refine nx (sl 0 rfl (sl 1 rfl (sl 5 rfl (sl 22 rfl sn)))) en ?_
      refine tri_if rfl (fun h2 => ?_) (fun h2 => ?_)
      · refine tri_seq ?_
        refine tri_reg mixed hcx ?_ _ _
        refine asg rfl ?_
        refine ⟨by kernel_rfl, ?_⟩
        refine nx (sl 4 rfl sn) en ?_
        refine tri_ret ?_
        repeat (first | refine pn_thenr ?_ | refine pn_blkr ?_)
        exact ret1 hcx rfl (rv_tmp rfl) (ci (hR.big (.inr (.inr ⟨i, by omega, by have : 12 < ((b.getD i []).length : Int) := h2; omega⟩))).symm) en
      · have h2b : ¬ 12 < ((b.getD i []).length : Int) := h2
        refine tri_skip ?_
        refine nx (sl 0 rfl (sl 1 rfl (sl 5 rfl sn))) en ?_
        refine tri_seq ?_
        refine tri_reg mixed hcx ?_ _ _
        refine asg rfl ?_
        refine ⟨by kernel_rfl, ?_⟩
        refine nx (sl 0 rfl (sl 1 rfl (sl 5 rfl (sl 6 rfl sn)))) en ?_
        refine tri_block ?_
        refine tri_loop (ι := Nat) (fun e => [(0, T.l (cL (cZi k)) b), (1, T.c (.bool true)), (5, T.c (.int .i64 (i : Int))), (6, T.c (.int .i64 (e : Int)))]) (fun e => []) (fun e => (b.getD i []).length - e) (fun e => (e ≤ (b.getD i []).length) ∧ (true = true → ∀ k2, k2 < e → nbits ((b.getD i []).getD k2 0).natAbs ≤ 256)) 0 ⟨Nat.zero_le _, fun _ k2 hk2 => absurd hk2 (Nat.not_lt_zero _)⟩ (sl 0 rfl (sl 1 rfl (sl 5 rfl (sl 6 rfl sn)))) en ?_
        rintro e ⟨he, hB⟩
        refine tri_sub (sl 0 rfl (sl 1 rfl (sl 5 rfl (sl 6 rfl sn)))) en ?_
        refine tri_seq ?_
        refine tri_seq ?_
        refine tri_reg mixed hcx ?_ _ _
        refine mv rfl ?_
        refine mv rfl ?_
        refine mv rfl ?_
        refine ix rfl rfl slZss ⟨rfl, by omega⟩ ?_
        refine lf rfl tyZs ?_
        refine ln slZs rfl ?_
        refine clt rfl rfl rfl ?_
        refine ⟨by kernel_rfl, ?_⟩
        refine nx (sl 0 rfl (sl 1 rfl (sl 5 rfl (sl 6 rfl (sl 29 rfl sn))))) en ?_
        refine tri_if rfl (fun h3 => ?_) (fun h3 => ?_)
        · have h3b : (e : Int) < ((b.getD i []).length : Int) := h3
          refine tri_skip ?_
          refine nx (sl 0 rfl (sl 1 rfl (sl 5 rfl (sl 6 rfl sn)))) en ?_
          refine tri_seq ?_
          refine tri_block ?_
          refine tri_seq ?_
          refine tri_reg mixed hcx ?_ _ _
          refine mv rfl ?_
          refine mv rfl ?_
          refine mv rfl ?_ (hg := gd1)
          refine mv rfl ?_ (hg := gd1)
          refine ix rfl rfl slZss ⟨rfl, by omega⟩ ?_ (hg := gd1)
          refine lf rfl tyZs ?_ (hg := gd1)
          refine mv rfl ?_ (hg := gd1)
          refine ix rfl rfl slZs ⟨rfl, by omega⟩ ?_ (hg := gd1)
          refine ff rfl fMag rfl ?_ (hg := gd1)
          refine lf rfl tyLs ?_ (hg := gd1)
          refine ca rfl (h := r01_Bits (by omega)) (hn := ?_) (hg := gd1)
          refine cgt rfl rfl rfl ?_ (hg := gd1)
          refine pk rfl rfl ?_
          refine ⟨by kernel_rfl, ?_⟩
          refine nx (sl 0 rfl (sl 1 rfl (sl 5 rfl (sl 6 rfl (sl 44 rfl sn))))) en ?_
          refine tri_if rfl (fun h4b => ?_) (fun h4b => ?_)
          · refine tri_seq ?_
            refine tri_reg mixed hcx ?_ _ _
            refine asg rfl ?_
            refine ⟨by kernel_rfl, ?_⟩
            refine nx (sl 4 rfl sn) en ?_
            refine tri_ret ?_
            repeat (first | refine pn_thenr ?_ | refine pn_blkr ?_)
            exact ret1 hcx rfl (rv_tmp rfl) (ci (hR.big (.inr (.inl ⟨rfl, Nat.lt_of_lt_of_le (show 256 < nbits ((b.getD i []).getD e 0).natAbs by have : 256 < ((nbits ((b.getD i []).getD e 0).natAbs : Nat) : Int) := h4b; omega) (matB_at (by omega) (by omega))⟩))).symm) en
          · have h4 : nbits ((b.getD i []).getD e 0).natAbs ≤ 256 := by have : ¬ 256 < ((nbits ((b.getD i []).getD e 0).natAbs : Nat) : Int) := h4b; omega
            refine tri_skip ?_
            refine pn_blk ?_
            refine nx (sl 0 rfl (sl 1 rfl (sl 5 rfl (sl 6 rfl sn)))) en ?_
            refine tri_reg mixed hcx ?_ _ _
            refine mv rfl ?_
            refine ad (((e + 1 : Nat) : Int)) rfl rfl rfl (by omega) ?_
            refine asg rfl ?_
            refine ⟨by kernel_rfl, ?_⟩
            exact pn_back (e + 1) (by first | omega | (dsimp only; omega)) ⟨by omega, fun hq2 k2 hk2 => by rcases Nat.lt_or_eq_of_le (Nat.le_of_lt_succ hk2) with h8 | h8; exact hB hq2 k2 h8; subst h8; exact h4⟩ (sl 0 rfl (sl 1 rfl (sl 5 rfl (sl 6 rfl sn)))) en
        · refine tri_exit ?_
          repeat (first | refine pn_then ?_ | refine pn_oth (by decide) ?_)
          refine pn_ex ?_
          have h5 : ¬ (e : Int) < ((b.getD i []).length : Int) := h3
          refine pn_blk ?_
          refine nx (sl 0 rfl (sl 1 rfl (sl 5 rfl sn))) en ?_
          refine tri_reg mixed hcx ?_ _ _
          refine mv rfl ?_
          refine ad (((i + 1 : Nat) : Int)) rfl rfl rfl (by omega) ?_
          refine asg rfl ?_
          refine ⟨by kernel_rfl, ?_⟩
          exact pn_back (i + 1) (by first | omega | (dsimp only; omega)) ⟨by omega, fun j hj => by rcases Nat.lt_or_eq_of_le (Nat.le_of_lt_succ hj) with h8 | h8; exact hA j h8; subst h8; exact ⟨by omega, fun hq k2 hk2 => hB hq k2 (by omega)⟩⟩ (sl 0 rfl (sl 1 rfl (sl 5 rfl sn))) en
    · refine tri_exit ?_
      repeat (first | refine pn_then ?_ | refine pn_oth (by decide) ?_)
      refine pn_ex ?_
      have hin : i = b.length := by omega
      subst hin
      have hnb : ¬ BigB b true := by rintro (h7 | ⟨h7, h8⟩ | ⟨j, h7, h8⟩); omega; exact absurd (matB_le (N := 256) (n := b.length) fun i hi => (hA i hi).2 h7) (by omega); have := (hA j h7).1; omega
      refine nx (sl 0 rfl sn) en ?_
      refine tri_seq ?_
      refine tri_seq ?_
      refine tri_reg mixed hcx ?_ _ _
      refine mv rfl ?_
      refine ln slZss rfl ?_
      refine ceq rfl rfl rfl ?_
      refine ⟨by kernel_rfl, ?_⟩
      refine nx (sl 0 rfl (sl 47 rfl sn)) en ?_
      refine tri_if rfl (fun h6 => ?_) (fun h6 => ?_)
      · refine tri_seq ?_
        refine tri_reg mixed hcx ?_ _ _
        refine asg rfl ?_
        refine ⟨by kernel_rfl, ?_⟩
        refine nx (sl 4 rfl sn) en ?_
        refine tri_ret ?_
        repeat (first | refine pn_thenr ?_ | refine pn_blkr ?_)
        exact ret1 hcx rfl (rv_tmp rfl) (ci (hR.nil hnb (by omega)).symm) en
      · refine tri_skip ?_
        refine nx (sl 0 rfl sn) en ?_
        refine tri_seq ?_
        refine tri_seq ?_
        refine tri_reg mixed hcx ?_ _ _
        refine asg rfl ?_
        refine ⟨by kernel_rfl, ?_⟩
        refine nx (sl 0 rfl (sl 7 rfl sn)) en ?_
        refine tri_block ?_
        refine tri_loop (ι := Nat) (fun i => [(0, T.l (cL (cZi k)) b), (7, T.c (.int .i64 (i : Int)))]) (fun i => []) (fun i => b.length - i) (fun i => (i ≤ b.length) ∧ (∀ j, j < i → (b.getD j []).length = (b.getD 0 []).length)) 0 ⟨Nat.zero_le _, fun j hj => absurd hj (Nat.not_lt_zero _)⟩ (sl 0 rfl (sl 7 rfl sn)) en ?_
        rintro i ⟨hi, hC⟩
        refine tri_sub (sl 0 rfl (sl 7 rfl sn)) en ?_
        refine tri_seq ?_
        refine tri_seq ?_
        refine tri_reg mixed hcx ?_ _ _
        refine mv rfl ?_
        refine mv rfl ?_
        refine ln slZss rfl ?_
        refine clt rfl rfl rfl ?_
        refine ⟨by kernel_rfl, ?_⟩
        refine nx (sl 0 rfl (sl 7 rfl (sl 51 rfl sn))) en ?_
        refine tri_if rfl (fun hd => ?_) (fun hd => ?_)
        · have hmi : (b.getD i (cL (cZi k)).dflt).length ≤ 1048576 := hrr i (by omega)
          have hm0 : (b.getD 0 (cL (cZi k)).dflt).length ≤ 1048576 := hrr 0 (by omega)
          refine tri_skip ?_
          refine nx (sl 0 rfl (sl 7 rfl sn)) en ?_
          refine tri_seq ?_
          refine tri_block ?_
          refine tri_seq ?_
          refine tri_reg mixed hcx ?_ _ _
          refine mv rfl ?_
          refine mv rfl ?_
          refine ix rfl rfl slZss ⟨rfl, by omega⟩ ?_
          refine lf rfl tyZs ?_
          refine ln slZs rfl ?_
          refine mv rfl ?_
          refine ix rfl rfl slZss ⟨(rfl : _ = ((0 : Nat) : Int)), by omega⟩ ?_
          refine lf rfl tyZs ?_
          refine ln slZs rfl ?_
          refine cne rfl rfl rfl ?_
          refine ⟨by kernel_rfl, ?_⟩
          refine nx (sl 0 rfl (sl 7 rfl (sl 63 rfl sn))) en ?_
          refine tri_if rfl (fun h10 => ?_) (fun h10 => ?_)
          · refine tri_seq ?_
            refine tri_reg mixed hcx ?_ _ _
            refine asg rfl ?_
            refine ⟨by kernel_rfl, ?_⟩
            refine nx (sl 4 rfl sn) en ?_
            refine tri_ret ?_
            repeat (first | refine pn_thenr ?_ | refine pn_blkr ?_)
            exact ret1 hcx rfl (rv_tmp rfl) (ci (hR.bad hnb (by omega) ⟨i, by omega, fun e => h10 (congrArg (fun n : Nat => (n : Int)) e)⟩).symm) en
          · have h11 : (b.getD i []).length = (b.getD 0 []).length := Int.ofNat_inj.1 (Decidable.not_not.1 h10)
            refine tri_skip ?_
            refine pn_blk ?_
            refine nx (sl 0 rfl (sl 7 rfl sn)) en ?_
            refine tri_reg mixed hcx ?_ _ _
            refine mv rfl ?_
            refine ad (((i + 1 : Nat) : Int)) rfl rfl rfl (by omega) ?_
            refine asg rfl ?_
            refine ⟨by kernel_rfl, ?_⟩
            exact pn_back (i + 1) (by first | omega | (dsimp only; omega)) ⟨by omega, fun j hj => by rcases Nat.lt_or_eq_of_le (Nat.le_of_lt_succ hj) with h8 | h8; exact hC j h8; subst h8; exact h11⟩ (sl 0 rfl (sl 7 rfl sn)) en
        · refine tri_exit ?_
          repeat (first | refine pn_then ?_ | refine pn_oth (by decide) ?_)
          refine pn_ex ?_
          have hin : i = b.length := by omega
          subst hin
          refine nx sn en ?_
          refine tri_seq ?_
          refine tri_reg mixed hcx ?_ _ _
          refine asg rfl ?_
          refine ⟨by kernel_rfl, ?_⟩
          refine nx (sl 4 rfl sn) en ?_
          refine tri_ret ?_
          repeat (first | refine pn_thenr ?_ | refine pn_blkr ?_)
          exact ret1 hcx rfl (rv_tmp rfl) (ci (hR.ok hnb (by omega) (fun ⟨j, h8, h9⟩ => h9 (hC j h8))).symm) en

end Go.Proofs.YtekghdfbhbhigaaGreat.V
/- The document: rows made orthogonal. -/
set_option linter.unusedVariables false
set_option linter.unusedSimpArgs false
set_option maxRecDepth 100000
namespace Go.Proofs.YtekghdfbhbhigaaGreat.V
open Go.RowKit Mt Nml
theorem tyR : Ty Tryz.prog 96 true 2 := ⟨by kernel_rfl, by kernel_rfl⟩
theorem tyQss : Ty Tryz.prog 94 false 1 := ⟨by kernel_rfl, by kernel_rfl⟩
theorem fMu : FieldT Tryz.prog 96 0 0 false 1 := FieldT.mk' tyQss
theorem fStar : FieldT Tryz.prog 96 1 1 false 1 := FieldT.mk' tyQs
theorem slQss : SlT Tryz.prog 94 37 1 24 := SlT.mk (.slice none 0 0)
theorem stR : StructT Tryz.prog 96 [T.c (.slice none 0 0), T.c (.slice none 0 0)] [(0, 1), (1, 1)] := StructT.mk' (zs := [.slice none 0 0, .slice none 0 0])
theorem zeR : Zero Tryz.prog 96 [T.c (.slice none 0 0), T.c (.slice none 0 0)] := zero_of (zs := [.slice none 0 0, .slice none 0 0]) (z := .agg #[.slice none 0 0, .slice none 0 0]) (by kernel_rfl)
theorem q_nd (q : Rat) : ((q.num : Int) : Rat) / (((q.den : Int)) : Rat) = q := by rw [← Rat.divInt_eq_div, Rat.num_divInt_den]
theorem rat_divs {q r : Rat} (hr : r ≠ 0) : ((q.num * (r.den : Int) : Int) : Rat) / (((q.den : Int) * r.num : Int) : Rat) = q / r := by
  have h1 : (((q.den : Int)) : Rat) ≠ 0 := rat_ne (den_ne q)
  have h2 : (((r.den : Int)) : Rat) ≠ 0 := rat_ne (den_ne r)
  have h3 : ((r.num : Int) : Rat) ≠ 0 := rat_ne (fun e => hr (Rat.num_eq_zero.1 e))
  conv => rhs; rw [← q_nd q, ← q_nd r]
  rw [Rat.intCast_mul, Rat.intCast_mul]
  generalize ((q.num : Int) : Rat) = a
  generalize ((r.num : Int) : Rat) = c at h3
  generalize (((q.den : Int)) : Rat) = b at h1
  generalize (((r.den : Int)) : Rat) = d at h2
  grind
theorem num_ne {r : Rat} (hr : r ≠ 0) : r.num ≠ 0 := fun e => hr (Rat.num_eq_zero.1 e)
theorem box_open {et : TypeId} {l : List T} : (Ent.box et [T.st l]).le (Ent.box et l) := fun β u w v F ⟨b, cs, h1, h2, h3, v', rest, _, ⟨cs', e1, hc⟩, e2, e3⟩ => ⟨b, cs, h1, h2, h3, by
  subst e1
  rw [e3, List.append_nil] at e2
  simp only [Value.cells] at e2
  rw [e2]; exact hc⟩
/-- The coefficients and squared lengths of rows, as fractions. -/
def mR (b : List (List Int)) (i j : Nat) : Rat := Mr (gR b) j i j / Mr (gR b) j j j
def sR (b : List (List Int)) (i : Nat) : Rat := Mr (gR b) i i i
def mL (b : List (List Int)) (i n : Nat) : List Rat := (List.range n).map (mR b i)
def ML (b : List (List Int)) (n : Nat) : List (List Rat) := (List.range n).map (fun i => mL b i i)
def SL (b : List (List Int)) (n : Nat) : List Rat := (List.range n).map (sR b)
theorem rng_at {α : Type} {f : Nat → α} {d : α} {n k : Nat} (h : k < n) : ((List.range n).map f).getD k d = f k := by
  rw [List.getD_eq_getElem?_getD, List.getElem?_map, List.getElem?_range h]; rfl
theorem mL_at {b : List (List Int)} {i n k : Nat} (h : k < n) : (mL b i n).getD k 0 = mR b i k := rng_at h
theorem ML_at {b : List (List Int)} {n j : Nat} (h : j < n) : (ML b n).getD j [] = mL b j j := rng_at h
theorem SL_at {b : List (List Int)} {n k : Nat} (h : k < n) : (SL b n).getD k 0 = sR b k := rng_at h
theorem mL_len {b : List (List Int)} {i n : Nat} : (mL b i n).length = n := by simp [mL]
theorem ML_len {b : List (List Int)} {n : Nat} : (ML b n).length = n := by simp [ML]
theorem SL_len {b : List (List Int)} {n : Nat} : (SL b n).length = n := by simp [SL]
theorem mL_succ {b : List (List Int)} {i n : Nat} : mL b i n ++ [mR b i n] = mL b i (n + 1) := by simp [mL, List.range_succ]
theorem ML_succ {b : List (List Int)} {n : Nat} : ML b n ++ [mL b n n] = ML b (n + 1) := by simp [ML, List.range_succ]
theorem SL_succ {b : List (List Int)} {n : Nat} : SL b n ++ [sR b n] = SL b (n + 1) := by simp [SL, List.range_succ]
theorem mr_step (b : List (List Int)) {i j k : Nat} (h : sR b k ≠ 0) : Mr (gR b) k i j - mR b j k * mR b i k * sR b k = Mr (gR b) (k + 1) i j := by
  show Mr (gR b) k i j - Mr (gR b) k j k / Mr (gR b) k k k * (Mr (gR b) k i k / Mr (gR b) k k k) * Mr (gR b) k k k = Mr (gR b) k i j + -(Mr (gR b) k i k / Mr (gR b) k k k) * Mr (gR b) k k j
  rw [mr_symm (gR_symm b) k k j]
  have h' : Mr (gR b) k k k ≠ 0 := h
  generalize Mr (gR b) k k k = m at h'
  generalize Mr (gR b) k i k = x
  generalize Mr (gR b) k j k = y
  grind
theorem mr_step2 (b : List (List Int)) {i k : Nat} (h : sR b k ≠ 0) : Mr (gR b) k i i - mR b i k * mR b i k * sR b k = Mr (gR b) (k + 1) i i := mr_step b h

theorem r03_Div {q r : Rat} {k l : Nat} (hr : r ≠ 0) (hk : k ≤ 68719476736) (hl : l ≤ 68719476736) : Fn Tryz.prog 154 [T.Q q k, T.Q r l] [] [] [] (T.Q (q / r) (2 * (k + l))) := by
  refine fn_of Tryz.func154 rfl (by show 2 ≤ 16; decide) fun cx hcx => ?_
  refine tri_sub (sl 0 rfl (sl 1 rfl sn)) en ?_
  have hd1 := den_ne q; have hr1 := num_ne hr; have hdd : (q.den : Int) * r.num ≠ 0 := Int.mul_ne_zero hd1 hr1
  refine tri_seq ?_
  refine tri_reg mixed hcx ?_ _ _
  refine bxs 10 rfl ?_
  refine bxs 11 rfl ?_
  refine nw 12 zeQ ?_
  refine ⟨by kernel_rfl, ?_⟩
  refine nx (sl 2 rfl (sl 3 rfl (sl 4 rfl sn))) (el 10 rfl (el 11 rfl (el 12 rfl en))) ?_
  refine tri_seq ?_
  refine tri_reg mixed hcx ?_ _ _
  refine fa rfl fNum 0 ?_
  refine ld rfl rfl tyZ rfl ?_
  refine fa rfl fDen 2 ?_
  refine ld rfl rfl tyZ rfl ?_
  refine ca rfl (h := r02_Mul (by omega) (by omega)) (hn := ?_)
  refine fa rfl fDen 2 ?_
  refine ld rfl rfl tyZ rfl ?_
  refine fa rfl fNum 0 ?_
  refine ld rfl rfl tyZ rfl ?_
  refine ca rfl (h := r02_Mul (by omega) (by omega)) (hn := ?_)
  refine ca rfl (h := r03_Make (by first | assumption | omega) (by omega) (by omega)) (hn := ?_)
  refine st rfl rfl rfl tyQ rfl ?_
  refine ⟨by kernel_rfl, ?_⟩
  refine nx (sl 4 rfl sn) (el 10 rfl (el 11 rfl (el 12 rfl en))) ?_
  refine tri_ret ?_
  repeat (first | refine pn_thenr ?_ | refine pn_blkr ?_)
  exact ret1 hcx rfl (rv_cell (c' := cx) (n := 0) rfl rfl tyQ rfl) (q_eq (rat_divs hr) (by omega)) en

theorem r05_Dot {xs ys : List Int} {k l : Nat} (hl : xs.length = ys.length) (hn : xs.length ≤ 1048576) (hk : k ≤ 1099511627776) (hk2 : l ≤ 1099511627776) (hkl : xs.length * (k + l + 1) ≤ 1099511627776) : Fn Tryz.prog 19 [T.l (cZi k) xs, T.l (cZi l) ys] [] [] [] (T.Z (dotU xs ys xs.length) (xs.length * (k + l + 1))) := by
  refine fn_of Tryz.func19 rfl (by show 2 ≤ 31; decide) fun cx hcx => ?_
  refine tri_sub (sl 0 rfl (sl 1 rfl sn)) en ?_
  refine tri_seq ?_
  refine tri_reg mixed hcx ?_ _ _
  refine nw 10 zeZ ?_
  refine ⟨by kernel_rfl, ?_⟩
  refine nx (sl 0 rfl (sl 1 rfl (sl 4 rfl sn))) (el 10 rfl en) ?_
  refine tri_seq ?_
  refine tri_reg mixed hcx ?_ _ _
  refine nw 110 zeZ ?_
  refine ⟨by kernel_rfl, ?_⟩
  refine nx (sl 0 rfl (sl 1 rfl (sl 4 rfl (sl 5 rfl sn)))) (el 10 rfl (el 110 rfl en)) ?_
  refine tri_seq ?_
  refine tri_seq ?_
  refine tri_reg mixed hcx ?_ _ _
  refine asg rfl ?_
  refine ⟨by kernel_rfl, ?_⟩
  refine nx (sl 0 rfl (sl 1 rfl (sl 4 rfl (sl 5 rfl (sl 6 rfl sn))))) (el 10 rfl (el 110 rfl en)) ?_
  refine tri_block ?_
  refine tri_loop (ι := Nat) (fun i => [(0, T.l (cZi k) xs), (1, T.l (cZi l) ys), (4, T.p 10 0), (5, T.p 110 0), (6, T.c (.int .i64 (i : Int)))]) (fun i => [(10, some (Ent.box 32 [T.c (.bool false), T.c (.slice none 0 0)])), (110, some (Ent.box 32 [T.Z (dotU xs ys i) (i * (k + l + 1))]))]) (fun i => xs.length - i) (fun i => (i ≤ xs.length)) 0 (Nat.zero_le _) (sl 0 rfl (sl 1 rfl (sl 4 rfl (sl 5 rfl (sl 6 rfl sn))))) (el 10 rfl (ew 110 rfl (box_pack (zz0.trans (z_up (Nat.zero_le _))) (by show (2 : Nat) ≠ 0; omega)) en)) ?_
  rintro i hi
  refine tri_sub (sl 0 rfl (sl 1 rfl (sl 4 rfl (sl 5 rfl (sl 6 rfl sn))))) (el 10 rfl (el 110 rfl en)) ?_
  have hib : i * (k + l + 1) ≤ xs.length * (k + l + 1) := Nat.mul_le_mul_right _ hi
  refine tri_seq ?_
  refine tri_seq ?_
  rcases Nat.lt_or_ge i xs.length with h9 | h9
  · refine tri_reg mixed hcx ?_ _ _
    refine mv rfl ?_
    refine mv rfl ?_
    refine ln slZs rfl ?_
    refine clt rfl rfl (decide_eq_true (by omega)) ?_
    refine mv rfl ?_
    refine mv rfl ?_ (hg := gd1)
    refine mv rfl ?_ (hg := gd1)
    refine ln slZs rfl ?_ (hg := gd1)
    refine clt rfl rfl (decide_eq_true (by omega)) ?_ (hg := gd1)
    refine pk rfl rfl ?_
    refine ⟨by kernel_rfl, ?_⟩
    refine nx (sl 0 rfl (sl 1 rfl (sl 4 rfl (sl 5 rfl (sl 6 rfl (sl 16 rfl sn)))))) (el 10 rfl (el 110 rfl en)) ?_
    refine tri_true rfl rfl ?_
    refine tri_skip ?_
    refine nx (sl 0 rfl (sl 1 rfl (sl 4 rfl (sl 5 rfl (sl 6 rfl sn))))) (el 10 rfl (el 110 rfl en)) ?_
    refine tri_seq ?_
    refine tri_block ?_
    refine tri_reg mixed hcx ?_ _ _
    refine ld rfl rfl tyZ rfl ?_
    refine mv rfl ?_
    refine mv rfl ?_
    refine ix rfl rfl slZs ⟨rfl, by omega⟩ ?_
    refine lf rfl tyZ ?_
    refine mv rfl ?_
    refine mv rfl ?_
    refine ix rfl rfl slZs ⟨rfl, by omega⟩ ?_
    refine lf rfl tyZ ?_
    refine ca rfl (h := r02_Mul (by omega) (by omega)) (hn := ?_)
    refine ca rfl (h := r02_Add (by omega) (by omega)) (hn := ?_)
    refine st rfl rfl rfl tyZ rfl ?_
    refine ⟨by kernel_rfl, ?_⟩
    refine pn_blk ?_
    refine nx (sl 0 rfl (sl 1 rfl (sl 4 rfl (sl 5 rfl (sl 6 rfl sn))))) (el 10 rfl (el 110 rfl en)) ?_
    refine tri_reg mixed hcx ?_ _ _
    refine mv rfl ?_
    refine ad (((i + 1 : Nat) : Int)) rfl rfl rfl (by omega) ?_
    refine asg rfl ?_
    refine ⟨by kernel_rfl, ?_⟩
    exact pn_back (i + 1) (by first | omega | (dsimp only; omega)) (by omega) (sl 0 rfl (sl 1 rfl (sl 4 rfl (sl 5 rfl (sl 6 rfl sn))))) (el 10 rfl (ew 110 rfl (box_pack1 (z_up (by rw [Nat.succ_mul]; omega))) en))
  · refine tri_reg mixed hcx ?_ _ _
    refine mv rfl ?_
    refine mv rfl ?_
    refine ln slZs rfl ?_
    refine clt rfl rfl (decide_eq_false (by omega)) ?_
    refine mv rfl ?_
    refine j_off rfl rfl rfl rfl ?_
    refine j_off rfl rfl rfl rfl ?_
    refine j_off rfl rfl rfl rfl ?_
    refine j_off rfl rfl rfl rfl ?_
    refine pk rfl rfl ?_
    refine ⟨by kernel_rfl, ?_⟩
    refine nx (sl 0 rfl (sl 1 rfl (sl 4 rfl (sl 5 rfl (sl 6 rfl (sl 16 rfl sn)))))) (el 10 rfl (el 110 rfl en)) ?_
    refine tri_false rfl rfl ?_
    refine tri_exit ?_
    repeat (first | refine pn_then ?_ | refine pn_oth (by decide) ?_)
    refine pn_ex ?_
    obtain rfl : i = xs.length := by omega
    refine nx (sl 4 rfl (sl 5 rfl sn)) (el 10 rfl (el 110 rfl en)) ?_
    refine tri_seq ?_
    refine tri_reg mixed hcx ?_ _ _
    refine ld rfl rfl tyZ rfl ?_
    refine st rfl rfl rfl tyZ rfl ?_
    refine ⟨by kernel_rfl, ?_⟩
    refine nx (sl 4 rfl sn) (el 10 rfl (el 110 rfl en)) ?_
    refine tri_ret ?_
    repeat (first | refine pn_thenr ?_ | refine pn_blkr ?_)
    exact ret1 hcx rfl (rv_cell (c' := cx) (n := 0) rfl rfl tyZ rfl) (.refl _) en

theorem q_pos {q : Rat} : 0 < q ↔ 0 < q.num := by
  constructor
  · intro h
    have h3 : 0 ≤ q.num := Rat.num_nonneg.2 (Rat.le_of_lt h)
    have h4 : q.num ≠ 0 := fun e => by rw [Rat.num_eq_zero] at e; rw [e] at h; exact Rat.lt_irrefl h
    omega
  · intro h
    refine Rat.lt_of_le_of_ne (Rat.num_nonneg.1 (by omega)) fun e => ?_
    rw [← e] at h
    exact absurd h (by decide)
theorem any_l {α : Type} {c : Cod α} {l : List α} : (T.l c l).le T.any := fun β u v ⟨A, n, k, e, _⟩ => by subst e; rfl

theorem r05_Make {b : List (List Int)} {kb m K : Nat} (hall : Ok b b.length) (hbl : b.length ≤ 1048576) (hm : ∀ i, i < b.length → (b.getD i []).length = m) (hmm : m ≤ 1048576) (hkb : kb ≤ 1048576) (hmk : m * (kb + kb + 1) ≤ 17179869184) (hQ : ∀ i, i < b.length → Ok b i → ∀ k j, k ≤ j → j ≤ i → QB (Mr (gR b) k i j) K) (hM : ∀ i j, j < i → i < b.length → Ok b i → QB (mR b i j) K) (hK : K ≤ 268435456) : Fn Tryz.prog 107 [T.l (cL (cZi kb)) b] [] [] [] (T.tup [T.st [T.l (cL (cQ K)) (ML b b.length), T.l (cQ K) (SL b b.length)], T.c (.bool true)]) := by
  refine fn_of Tryz.func107 rfl (by show 1 ≤ 115; decide) fun cx hcx => ?_
  refine tri_sub (sl 0 rfl sn) en ?_
  refine tri_seq ?_
  refine tri_reg mixed hcx ?_ _ _
  refine nw 10 zeR ?_
  refine asg rfl ?_
  refine ⟨by kernel_rfl, ?_⟩
  refine nx (sl 0 rfl (sl 2 rfl sn)) (el 10 rfl en) ?_
  refine tri_seq ?_
  refine tri_reg mixed hcx ?_ _ _
  refine nw 110 zeR ?_
  refine ⟨by kernel_rfl, ?_⟩
  refine nx (sl 0 rfl (sl 2 rfl (sl 4 rfl sn))) (el 10 rfl (el 110 rfl en)) ?_
  refine tri_seq ?_
  refine tri_seq ?_
  refine tri_nilb (cL (cQ K)) 37 (bl := [T.c (.slice none 0 0), T.c (.slice none 0 0)]) (bl' := [T.o 8, T.c (.slice none 0 0)]) 110 8 rfl ⟨.inr ⟨rfl, rfl⟩, .inl ⟨rfl, by show 8 ∉ []; decide⟩, trivial⟩ (by rw [hcx]; kernel_rfl) ?_
  refine tri_nilb (cQ K) 34 (bl := [T.o 8, T.c (.slice none 0 0)]) (bl' := [T.o 8, T.o 9]) 110 9 rfl ⟨.inl ⟨rfl, by show 9 ∉ [8]; decide⟩, .inr ⟨rfl, rfl⟩, trivial⟩ (by rw [hcx]; kernel_rfl) ?_
  refine tri_reg mixed hcx ?_ _ _
  refine asg rfl ?_
  refine ⟨by kernel_rfl, ?_⟩
  refine nx (sl 0 rfl (sl 2 rfl (sl 4 rfl (sl 5 rfl sn)))) (el 10 rfl (el 110 rfl (el 8 rfl (el 9 rfl en)))) ?_
  refine tri_block ?_
  refine tri_loop (ι := Nat) (fun i => [(0, T.l (cL (cZi kb)) b), (2, T.p 10 0), (4, T.p 110 0), (5, T.c (.int .i64 (i : Int)))]) (fun i => [(10, some (Ent.box 96 [T.c (.slice none 0 0), T.c (.slice none 0 0)])), (8, some (Ent.row (cL (cQ K)) 37 (ML b i))), (9, some (Ent.row (cQ K) 34 (SL b i))), (110, some (Ent.box 96 [T.o 8, T.o 9]))]) (fun i => b.length - i) (fun i => (i ≤ b.length) ∧ (Ok b i)) 0 ⟨Nat.zero_le _, fun k hk => absurd hk (Nat.not_lt_zero _)⟩ (sl 0 rfl (sl 2 rfl (sl 4 rfl (sl 5 rfl sn)))) (el 10 rfl (el 8 rfl (el 9 rfl (el 110 rfl en)))) ?_
  rintro i ⟨hi, hok⟩
  refine tri_sub (sl 0 rfl (sl 2 rfl (sl 4 rfl (sl 5 rfl sn)))) (el 10 rfl (el 8 rfl (el 9 rfl (el 110 rfl en)))) ?_
  refine tri_seq ?_
  refine tri_seq ?_
  refine tri_reg mixed hcx ?_ _ _
  refine mv rfl ?_
  refine mv rfl ?_
  refine ln slZss rfl ?_
  refine clt rfl rfl rfl ?_
  refine ⟨by kernel_rfl, ?_⟩
  refine nx (sl 0 rfl (sl 2 rfl (sl 4 rfl (sl 5 rfl (sl 15 rfl sn))))) (el 10 rfl (el 8 rfl (el 9 rfl (el 110 rfl en)))) ?_
  refine tri_if rfl (fun hc => ?_) (fun hc => ?_)
  · have hmi : (b.getD i (cL (cZi kb)).dflt).length = m := hm i (by omega)
    have hQi := hQ i (by omega) hok
    have hmk2 : (b.getD i (cL (cZi kb)).dflt).length * (kb + kb + 1) ≤ 17179869184 := by rw [hmi]; exact hmk
    have hMl : (ML b i).length = i := ML_len
    have hSl : (SL b i).length = i := SL_len
    refine tri_skip ?_
    refine nx (sl 0 rfl (sl 2 rfl (sl 4 rfl (sl 5 rfl sn)))) (el 10 rfl (el 8 rfl (el 9 rfl (el 110 rfl en)))) ?_
    refine tri_seq ?_
    refine tri_block ?_
    refine tri_seq ?_
    refine tri_reg mixed hcx ?_ _ _
    refine asg rfl ?_
    refine ⟨by kernel_rfl, ?_⟩
    refine nx (sl 0 rfl (sl 2 rfl (sl 4 rfl (sl 5 rfl (sl 6 rfl sn))))) (el 10 rfl (el 8 rfl (el 9 rfl (el 110 rfl en)))) ?_
    refine tri_seq ?_
    refine tri_seq ?_
    refine tri_nil 6 7 34 (cQ K) rfl (by rw [hcx]; kernel_rfl) ?_
    refine tri_reg mixed hcx ?_ _ _
    refine asg rfl ?_
    refine ⟨by kernel_rfl, ?_⟩
    refine nx (sl 0 rfl (sl 2 rfl (sl 4 rfl (sl 5 rfl (sl 6 rfl (sl 7 rfl sn)))))) (el 10 rfl (el 8 rfl (el 9 rfl (el 110 rfl (el 7 rfl en))))) ?_
    refine tri_block ?_
    refine tri_loop (ι := Nat) (fun j => [(0, T.l (cL (cZi kb)) b), (2, T.p 10 0), (4, T.p 110 0), (5, T.c (.int .i64 (i : Int))), (6, T.o 7), (7, T.c (.int .i64 (j : Int)))]) (fun j => [(10, some (Ent.box 96 [T.c (.slice none 0 0), T.c (.slice none 0 0)])), (8, some (Ent.row (cL (cQ K)) 37 (ML b i))), (9, some (Ent.row (cQ K) 34 (SL b i))), (110, some (Ent.box 96 [T.o 8, T.o 9])), (7, some (Ent.row (cQ K) 34 (mL b i j)))]) (fun j => i - j) (fun j => (j ≤ i)) 0 (Nat.zero_le _) (sl 0 rfl (sl 2 rfl (sl 4 rfl (sl 5 rfl (sl 6 rfl (sl 7 rfl sn)))))) (el 10 rfl (el 8 rfl (el 9 rfl (el 110 rfl (el 7 rfl en))))) ?_
    rintro j hj
    refine tri_sub (sl 0 rfl (sl 2 rfl (sl 4 rfl (sl 5 rfl (sl 6 rfl (sl 7 rfl sn)))))) (el 10 rfl (el 8 rfl (el 9 rfl (el 110 rfl (el 7 rfl en))))) ?_
    refine tri_seq ?_
    refine tri_seq ?_
    refine tri_reg mixed hcx ?_ _ _
    refine mv rfl ?_
    refine mv rfl ?_
    refine clt rfl rfl rfl ?_
    refine ⟨by kernel_rfl, ?_⟩
    refine nx (sl 0 rfl (sl 2 rfl (sl 4 rfl (sl 5 rfl (sl 6 rfl (sl 7 rfl (sl 20 rfl sn))))))) (el 10 rfl (el 8 rfl (el 9 rfl (el 110 rfl (el 7 rfl en))))) ?_
    refine tri_if rfl (fun hd => ?_) (fun hd => ?_)
    · have hmj : (b.getD j (cL (cZi kb)).dflt).length = m := hm j (by omega)
      have hsj : sR b j ≠ 0 := ok_ne hok (by omega)
      have hml : (mL b i j).length = j := mL_len
      have hMj : ((ML b i).getD j (cL (cQ K)).dflt).length = j := by rw [show (ML b i).getD j (cL (cQ K)).dflt = mL b j j from ML_at (by omega), mL_len]
      refine tri_skip ?_
      refine nx (sl 0 rfl (sl 2 rfl (sl 4 rfl (sl 5 rfl (sl 6 rfl (sl 7 rfl sn)))))) (el 10 rfl (el 8 rfl (el 9 rfl (el 110 rfl (el 7 rfl en))))) ?_
      refine tri_seq ?_
      refine tri_block ?_
      refine tri_seq ?_
      refine tri_reg mixed hcx ?_ _ _
      refine mv rfl ?_
      refine mv rfl ?_
      refine ix rfl rfl slZss ⟨rfl, by omega⟩ ?_
      refine lf rfl tyZs ?_
      refine mv rfl ?_
      refine mv rfl ?_
      refine ix rfl rfl slZss ⟨rfl, by omega⟩ ?_
      refine lf rfl tyZs ?_
      refine ca rfl (h := r05_Dot (by omega) (by omega) (by omega) (by omega) (by omega)) (hn := ?_)
      refine ca rfl (h := r03_Of (by omega)) (hn := ?_)
      refine nw 920 zeQ ?_
      refine st rfl rfl rfl tyQ rfl ?_
      refine ⟨by kernel_rfl, ?_⟩
      refine nx (sl 0 rfl (sl 2 rfl (sl 4 rfl (sl 5 rfl (sl 6 rfl (sl 7 rfl (sl 8 rfl sn))))))) (el 10 rfl (el 8 rfl (el 9 rfl (el 110 rfl (el 7 rfl (el 920 rfl en)))))) ?_
      refine tri_seq ?_
      refine tri_seq ?_
      refine tri_reg mixed hcx ?_ _ _
      refine asg rfl ?_
      refine ⟨by kernel_rfl, ?_⟩
      refine nx (sl 0 rfl (sl 2 rfl (sl 4 rfl (sl 5 rfl (sl 6 rfl (sl 7 rfl (sl 8 rfl (sl 9 rfl sn)))))))) (el 10 rfl (el 8 rfl (el 9 rfl (el 110 rfl (el 7 rfl (el 920 rfl en)))))) ?_
      refine tri_block ?_
      refine tri_loop (ι := Nat) (fun e => [(0, T.l (cL (cZi kb)) b), (2, T.p 10 0), (4, T.p 110 0), (5, T.c (.int .i64 (i : Int))), (6, T.o 7), (7, T.c (.int .i64 (j : Int))), (8, T.p 920 0), (9, T.c (.int .i64 (e : Int)))]) (fun e => [(10, some (Ent.box 96 [T.c (.slice none 0 0), T.c (.slice none 0 0)])), (8, some (Ent.row (cL (cQ K)) 37 (ML b i))), (9, some (Ent.row (cQ K) 34 (SL b i))), (110, some (Ent.box 96 [T.o 8, T.o 9])), (7, some (Ent.row (cQ K) 34 (mL b i j))), (920, some (Ent.box 34 [T.Q (Mr (gR b) e i j) K]))]) (fun e => j - e) (fun e => (e ≤ j)) 0 (Nat.zero_le _) (sl 0 rfl (sl 2 rfl (sl 4 rfl (sl 5 rfl (sl 6 rfl (sl 7 rfl (sl 8 rfl (sl 9 rfl sn)))))))) (el 10 rfl (el 8 rfl (el 9 rfl (el 110 rfl (el 7 rfl (ew 920 rfl (box_pack1 (q_qb rfl (hQi 0 j (by omega) (by omega)))) en)))))) ?_
      rintro e he
      refine tri_sub (sl 0 rfl (sl 2 rfl (sl 4 rfl (sl 5 rfl (sl 6 rfl (sl 7 rfl (sl 8 rfl (sl 9 rfl sn)))))))) (el 10 rfl (el 8 rfl (el 9 rfl (el 110 rfl (el 7 rfl (el 920 rfl en)))))) ?_
      refine tri_seq ?_
      refine tri_seq ?_
      refine tri_reg mixed hcx ?_ _ _
      refine mv rfl ?_
      refine mv rfl ?_
      refine clt rfl rfl rfl ?_
      refine ⟨by kernel_rfl, ?_⟩
      refine nx (sl 0 rfl (sl 2 rfl (sl 4 rfl (sl 5 rfl (sl 6 rfl (sl 7 rfl (sl 8 rfl (sl 9 rfl (sl 35 rfl sn))))))))) (el 10 rfl (el 8 rfl (el 9 rfl (el 110 rfl (el 7 rfl (el 920 rfl en)))))) ?_
      refine tri_if rfl (fun he2 => ?_) (fun he2 => ?_)
      · have hse : sR b e ≠ 0 := ok_ne hok (by omega)
        refine tri_skip ?_
        refine nx (sl 0 rfl (sl 2 rfl (sl 4 rfl (sl 5 rfl (sl 6 rfl (sl 7 rfl (sl 8 rfl (sl 9 rfl sn)))))))) (el 10 rfl (el 8 rfl (el 9 rfl (el 110 rfl (el 7 rfl (el 920 rfl en)))))) ?_
        refine tri_seq ?_
        refine tri_block ?_
        refine tri_reg mixed hcx ?_ _ _
        refine ld rfl rfl tyQ rfl ?_
        refine fa rfl fMu 0 ?_
        refine ld rfl rfl tyQss rfl ?_
        refine mv rfl ?_
        refine ixo rfl rfl rfl slQss ⟨rfl, by omega⟩ ?_
        refine lo _ rfl rfl tyQs ⟨rfl, rfl, by omega⟩ ?_
        refine mv rfl ?_
        refine ix rfl rfl slQs ⟨rfl, by omega⟩ ?_
        refine lf rfl tyQ ?_
        refine mv rfl ?_
        refine mv rfl ?_
        refine ixo rfl rfl rfl slQs ⟨rfl, by omega⟩ ?_
        refine lo _ rfl rfl tyQ ⟨rfl, rfl, by omega⟩ ?_
        refine ca rfl (h := r03_Mul (by omega) (by omega)) (hn := ?_)
        refine fa rfl fStar 1 ?_
        refine ld rfl rfl tyQs rfl ?_
        refine mv rfl ?_
        refine ixo rfl rfl rfl slQs ⟨rfl, by omega⟩ ?_
        refine lo _ rfl rfl tyQ ⟨rfl, rfl, by omega⟩ ?_
        refine ca rfl (h := r03_Mul (by omega) (by omega)) (hn := ?_)
        refine ca rfl (h := r03_Sub (by omega) (by omega)) (hn := ?_)
        refine st rfl rfl rfl tyQ rfl ?_
        refine ⟨by kernel_rfl, ?_⟩
        refine pn_blk ?_
        refine nx (sl 0 rfl (sl 2 rfl (sl 4 rfl (sl 5 rfl (sl 6 rfl (sl 7 rfl (sl 8 rfl (sl 9 rfl sn)))))))) (el 10 rfl (el 8 rfl (el 9 rfl (el 110 rfl (el 7 rfl (el 920 rfl en)))))) ?_
        refine tri_reg mixed hcx ?_ _ _
        refine mv rfl ?_
        refine ad (((e + 1 : Nat) : Int)) rfl rfl rfl (by omega) ?_
        refine asg rfl ?_
        refine ⟨by kernel_rfl, ?_⟩
        exact pn_back (e + 1) (by first | omega | (dsimp only; omega)) (by omega) (sl 0 rfl (sl 2 rfl (sl 4 rfl (sl 5 rfl (sl 6 rfl (sl 7 rfl (sl 8 rfl (sl 9 rfl sn)))))))) (el 10 rfl (el 8 rfl (el 9 rfl (el 110 rfl (el 7 rfl (ew 920 rfl (box_pack1 (q_qb (by rw [show (ML b i).getD j (cL (cQ K)).dflt = mL b j j from ML_at (by omega), show (mL b j j).getD e (cQ K).dflt = mR b j e from mL_at (by omega), show (mL b i j).getD e (cQ K).dflt = mR b i e from mL_at (by omega), show (SL b i).getD e (cQ K).dflt = sR b e from SL_at (by omega)]; exact mr_step b hse) (hQi (e + 1) j (by omega) (by omega)))) en))))))
      · refine tri_exit ?_
        repeat (first | refine pn_then ?_ | refine pn_oth (by decide) ?_)
        refine pn_ex ?_
        obtain rfl : j = e := by omega
        refine nx (sl 0 rfl (sl 2 rfl (sl 4 rfl (sl 5 rfl (sl 6 rfl (sl 7 rfl (sl 8 rfl sn))))))) (el 10 rfl (el 8 rfl (el 9 rfl (el 110 rfl (el 7 rfl (el 920 rfl en)))))) ?_
        refine tri_reg mixed hcx ?_ _ _
        refine mv rfl ?_
        refine ld rfl rfl tyQ rfl ?_
        refine fa rfl fStar 1 ?_
        refine ld rfl rfl tyQs rfl ?_
        refine mv rfl ?_
        refine ixo rfl rfl rfl slQs ⟨rfl, by omega⟩ ?_
        refine lo _ rfl rfl tyQ ⟨rfl, rfl, by omega⟩ ?_
        refine ca rfl (h := r03_Div (by rw [show (SL b i).getD j (cQ K).dflt = sR b j from SL_at (by omega)]; exact hsj) (by omega) (by omega)) (hn := ?_)
        refine bs (c := cQ K) (xs := [mR b i j]) slQs rfl ⟨q_qb (by rw [show (SL b i).getD j (cQ K).dflt = sR b j from SL_at (by omega)]; rfl) (hM i j (by omega) (by omega) hok), trivial⟩ ?_
        refine ap 1419 rfl rfl rfl slQs (by simp only [List.length_cons, List.length_nil]; omega) (by decide) ?_
        refine asg rfl ?_
        refine ⟨by kernel_rfl, ?_⟩
        refine pn_blk ?_
        refine nx (sl 0 rfl (sl 2 rfl (sl 4 rfl (sl 5 rfl (sl 6 rfl (sl 7 rfl sn)))))) (el 10 rfl (el 8 rfl (el 9 rfl (el 110 rfl (el 920 rfl (el 1419 rfl en)))))) ?_
        refine tri_reg mixed hcx ?_ _ _
        refine mv rfl ?_
        refine ad (((j + 1 : Nat) : Int)) rfl rfl rfl (by omega) ?_
        refine asg rfl ?_
        refine ⟨by kernel_rfl, ?_⟩
        refine pn_sub (sl 0 rfl (sl 2 rfl (sl 4 rfl (sl 5 rfl (sl 6 rfl (sl 7 rfl sn)))))) (el 10 rfl (el 8 rfl (el 9 rfl (el 110 rfl (el 920 rfl (el 1419 rfl en)))))) ?_
        refine pn_ren 6 7 1419 rfl rfl (by rw [hcx]; kernel_rfl) ?_
        exact pn_back (j + 1) (by first | omega | (dsimp only; omega)) (by omega) (sl 0 rfl (sl 2 rfl (sl 4 rfl (sl 5 rfl (sl 6 rfl (sl 7 rfl sn)))))) (el 10 rfl (el 8 rfl (el 9 rfl (el 110 rfl (ew 7 rfl (.of (by rw [mL_succ])) en)))))
    · refine tri_exit ?_
      repeat (first | refine pn_then ?_ | refine pn_oth (by decide) ?_)
      refine pn_ex ?_
      obtain rfl : i = j := by omega
      refine nx (sl 0 rfl (sl 2 rfl (sl 4 rfl (sl 5 rfl (sl 6 rfl sn))))) (el 10 rfl (el 8 rfl (el 9 rfl (el 110 rfl (el 7 rfl en))))) ?_
      refine tri_seq ?_
      refine tri_reg mixed hcx ?_ _ _
      refine mv rfl ?_
      refine mv rfl ?_
      refine ix rfl rfl slZss ⟨rfl, by omega⟩ ?_
      refine lf rfl tyZs ?_
      refine mv rfl ?_
      refine mv rfl ?_
      refine ix rfl rfl slZss ⟨rfl, by omega⟩ ?_
      refine lf rfl tyZs ?_
      refine ca rfl (h := r05_Dot (by omega) (by omega) (by omega) (by omega) (by omega)) (hn := ?_)
      refine ca rfl (h := r03_Of (by omega)) (hn := ?_)
      refine nw 1520 zeQ ?_
      refine st rfl rfl rfl tyQ rfl ?_
      refine ⟨by kernel_rfl, ?_⟩
      refine nx (sl 0 rfl (sl 2 rfl (sl 4 rfl (sl 5 rfl (sl 6 rfl (sl 10 rfl sn)))))) (el 10 rfl (el 8 rfl (el 9 rfl (el 110 rfl (el 7 rfl (el 1520 rfl en)))))) ?_
      refine tri_seq ?_
      refine tri_seq ?_
      refine tri_reg mixed hcx ?_ _ _
      refine asg rfl ?_
      refine ⟨by kernel_rfl, ?_⟩
      refine nx (sl 0 rfl (sl 2 rfl (sl 4 rfl (sl 5 rfl (sl 6 rfl (sl 10 rfl (sl 11 rfl sn))))))) (el 10 rfl (el 8 rfl (el 9 rfl (el 110 rfl (el 7 rfl (el 1520 rfl en)))))) ?_
      refine tri_block ?_
      refine tri_loop (ι := Nat) (fun e => [(0, T.l (cL (cZi kb)) b), (2, T.p 10 0), (4, T.p 110 0), (5, T.c (.int .i64 (i : Int))), (6, T.o 7), (10, T.p 1520 0), (11, T.c (.int .i64 (e : Int)))]) (fun e => [(10, some (Ent.box 96 [T.c (.slice none 0 0), T.c (.slice none 0 0)])), (8, some (Ent.row (cL (cQ K)) 37 (ML b i))), (9, some (Ent.row (cQ K) 34 (SL b i))), (110, some (Ent.box 96 [T.o 8, T.o 9])), (7, some (Ent.row (cQ K) 34 (mL b i i))), (1520, some (Ent.box 34 [T.Q (Mr (gR b) e i i) K]))]) (fun e => i - e) (fun e => (e ≤ i)) 0 (Nat.zero_le _) (sl 0 rfl (sl 2 rfl (sl 4 rfl (sl 5 rfl (sl 6 rfl (sl 10 rfl (sl 11 rfl sn))))))) (el 10 rfl (el 8 rfl (el 9 rfl (el 110 rfl (el 7 rfl (ew 1520 rfl (box_pack1 (q_qb rfl (hQi 0 i (by omega) (by omega)))) en)))))) ?_
      rintro e he
      refine tri_sub (sl 0 rfl (sl 2 rfl (sl 4 rfl (sl 5 rfl (sl 6 rfl (sl 10 rfl (sl 11 rfl sn))))))) (el 10 rfl (el 8 rfl (el 9 rfl (el 110 rfl (el 7 rfl (el 1520 rfl en)))))) ?_
      have hml : (mL b i i).length = i := mL_len
      refine tri_seq ?_
      refine tri_seq ?_
      refine tri_reg mixed hcx ?_ _ _
      refine mv rfl ?_
      refine mv rfl ?_
      refine clt rfl rfl rfl ?_
      refine ⟨by kernel_rfl, ?_⟩
      refine nx (sl 0 rfl (sl 2 rfl (sl 4 rfl (sl 5 rfl (sl 6 rfl (sl 10 rfl (sl 11 rfl (sl 81 rfl sn)))))))) (el 10 rfl (el 8 rfl (el 9 rfl (el 110 rfl (el 7 rfl (el 1520 rfl en)))))) ?_
      refine tri_if rfl (fun he3 => ?_) (fun he3 => ?_)
      · have hse : sR b e ≠ 0 := ok_ne hok (by omega)
        refine tri_skip ?_
        refine nx (sl 0 rfl (sl 2 rfl (sl 4 rfl (sl 5 rfl (sl 6 rfl (sl 10 rfl (sl 11 rfl sn))))))) (el 10 rfl (el 8 rfl (el 9 rfl (el 110 rfl (el 7 rfl (el 1520 rfl en)))))) ?_
        refine tri_seq ?_
        refine tri_block ?_
        refine tri_reg mixed hcx ?_ _ _
        refine ld rfl rfl tyQ rfl ?_
        refine mv rfl ?_
        refine mv rfl ?_
        refine ixo rfl rfl rfl slQs ⟨rfl, by omega⟩ ?_
        refine lo _ rfl rfl tyQ ⟨rfl, rfl, by omega⟩ ?_
        refine ca rfl (h := r05_square (by omega)) (hn := ?_)
        refine fa rfl fStar 1 ?_
        refine ld rfl rfl tyQs rfl ?_
        refine mv rfl ?_
        refine ixo rfl rfl rfl slQs ⟨rfl, by omega⟩ ?_
        refine lo _ rfl rfl tyQ ⟨rfl, rfl, by omega⟩ ?_
        refine ca rfl (h := r03_Mul (by omega) (by omega)) (hn := ?_)
        refine ca rfl (h := r03_Sub (by omega) (by omega)) (hn := ?_)
        refine st rfl rfl rfl tyQ rfl ?_
        refine ⟨by kernel_rfl, ?_⟩
        refine pn_blk ?_
        refine nx (sl 0 rfl (sl 2 rfl (sl 4 rfl (sl 5 rfl (sl 6 rfl (sl 10 rfl (sl 11 rfl sn))))))) (el 10 rfl (el 8 rfl (el 9 rfl (el 110 rfl (el 7 rfl (el 1520 rfl en)))))) ?_
        refine tri_reg mixed hcx ?_ _ _
        refine mv rfl ?_
        refine ad (((e + 1 : Nat) : Int)) rfl rfl rfl (by omega) ?_
        refine asg rfl ?_
        refine ⟨by kernel_rfl, ?_⟩
        exact pn_back (e + 1) (by first | omega | (dsimp only; omega)) (by omega) (sl 0 rfl (sl 2 rfl (sl 4 rfl (sl 5 rfl (sl 6 rfl (sl 10 rfl (sl 11 rfl sn))))))) (el 10 rfl (el 8 rfl (el 9 rfl (el 110 rfl (el 7 rfl (ew 1520 rfl (box_pack1 (q_qb (by rw [show (mL b i i).getD e (cQ K).dflt = mR b i e from mL_at (by omega), show (SL b i).getD e (cQ K).dflt = sR b e from SL_at (by omega)]; exact mr_step2 b hse) (hQi (e + 1) i (by omega) (by omega)))) en))))))
      · refine tri_exit ?_
        repeat (first | refine pn_then ?_ | refine pn_oth (by decide) ?_)
        refine pn_ex ?_
        obtain rfl : i = e := by omega
        refine nx (sl 0 rfl (sl 2 rfl (sl 4 rfl (sl 5 rfl (sl 6 rfl (sl 10 rfl sn)))))) (el 10 rfl (el 8 rfl (el 9 rfl (el 110 rfl (el 7 rfl (el 1520 rfl en)))))) ?_
        refine tri_seq ?_
        refine tri_seq ?_
        have hps : 0 < sR b i := hall i (by omega)
        · have hnx : Ok b (i + 1) := fun k hk => by rcases Nat.lt_or_eq_of_le (Nat.le_of_lt_succ hk) with h8 | h8; exact hok k h8; rw [h8]; exact hps
          have hsg : sg (Mr (gR b) i i i).num = 1 := sg_pos (q_pos.1 hps)
          refine tri_sub (sl 0 rfl (sl 2 rfl (sl 4 rfl (sl 5 rfl (sl 6 rfl (sl 10 rfl sn)))))) (el 10 rfl (el 8 rfl (el 9 rfl (el 110 rfl (el 7 rfl (ew 1520 rfl box_open en)))))) ?_
          refine tri_reg mixed hcx ?_ _ _
          refine fa rfl fNum 0 ?_
          refine ld rfl rfl tyZ rfl ?_
          refine ca rfl (h := r02_Sign (by omega)) (hn := ?_)
          refine cle rfl rfl (decide_eq_false (by omega)) ?_
          refine ⟨by kernel_rfl, ?_⟩
          refine nx (sl 0 rfl (sl 2 rfl (sl 4 rfl (sl 5 rfl (sl 6 rfl (sl 10 rfl (sl 100 rfl sn))))))) (el 10 rfl (el 8 rfl (el 9 rfl (el 110 rfl (el 7 rfl (el 1520 rfl en)))))) ?_
          refine tri_false rfl rfl ?_
          refine tri_skip ?_
          refine nx (sl 0 rfl (sl 2 rfl (sl 4 rfl (sl 5 rfl (sl 6 rfl (sl 10 rfl sn)))))) (el 10 rfl (el 8 rfl (el 9 rfl (el 110 rfl (el 7 rfl (el 1520 rfl en)))))) ?_
          refine tri_seq ?_
          refine tri_fz 7 rfl ?_
          refine tri_rd 6 7 rfl rfl ?_
          refine tri_reg mixed hcx ?_ _ _
          refine fa rfl fMu 0 ?_
          refine ld rfl rfl tyQss rfl ?_
          refine mv rfl ?_
          refine bs (c := cL (cQ K)) (xs := [mL b i i]) slQss rfl ⟨.refl _, trivial⟩ ?_
          refine ap 2214 rfl rfl rfl slQss (by simp only [List.length_cons, List.length_nil]; omega) (by decide) ?_
          refine fa rfl fMu 0 ?_
          refine st rfl rfl rfl tyQss rfl ?_
          refine ⟨by kernel_rfl, ?_⟩
          refine nx (sl 0 rfl (sl 2 rfl (sl 4 rfl (sl 5 rfl (sl 10 rfl sn))))) (el 10 rfl (el 9 rfl (el 110 rfl (el 1520 rfl (el 2214 rfl en))))) ?_
          refine tri_reg mixed hcx ?_ _ _
          refine fa rfl fStar 1 ?_
          refine ld rfl rfl tyQs rfl ?_
          refine ld rfl rfl tyQ rfl ?_
          refine bs (c := cQ K) (xs := [sR b i]) slQs rfl ⟨.refl _, trivial⟩ ?_
          refine ap 2314 rfl rfl rfl slQs (by simp only [List.length_cons, List.length_nil]; omega) (by decide) ?_
          refine fa rfl fStar 1 ?_
          refine st rfl rfl rfl tyQs rfl ?_
          refine ⟨by kernel_rfl, ?_⟩
          refine pn_blk ?_
          refine nx (sl 0 rfl (sl 2 rfl (sl 4 rfl (sl 5 rfl sn)))) (el 10 rfl (el 110 rfl (el 1520 rfl (el 2214 rfl (el 2314 rfl en))))) ?_
          refine tri_reg mixed hcx ?_ _ _
          refine mv rfl ?_
          refine ad (((i + 1 : Nat) : Int)) rfl rfl rfl (by omega) ?_
          refine asg rfl ?_
          refine ⟨by kernel_rfl, ?_⟩
          refine pn_sub (sl 0 rfl (sl 2 rfl (sl 4 rfl (sl 5 rfl sn)))) (el 10 rfl (el 110 rfl (el 2214 rfl (el 2314 rfl en)))) ?_
          refine pn_renb (bl := [T.o 2214, T.o 2314]) (bl' := [T.o 8, T.o 2314]) 110 8 2214 rfl rfl ⟨.inr ⟨rfl, rfl⟩, .inl ⟨rfl, by show 8 ∉ [2314]; decide⟩, trivial⟩ (by rw [hcx]; kernel_rfl) rfl ?_
          refine pn_renb (bl := [T.o 8, T.o 2314]) (bl' := [T.o 8, T.o 9]) 110 9 2314 rfl rfl ⟨.inl ⟨rfl, by show 9 ∉ [8]; decide⟩, .inr ⟨rfl, rfl⟩, trivial⟩ (by rw [hcx]; kernel_rfl) rfl ?_
          exact pn_back (i + 1) (by first | omega | (dsimp only; omega)) ⟨by omega, hnx⟩ (sl 0 rfl (sl 2 rfl (sl 4 rfl (sl 5 rfl sn)))) (el 10 rfl (ew 8 rfl (.of (by rw [ML_succ])) (ew 9 rfl (.of (by rw [SL_succ])) (el 110 rfl en))))
  · refine tri_exit ?_
    repeat (first | refine pn_then ?_ | refine pn_oth (by decide) ?_)
    refine pn_ex ?_
    have hin : i = b.length := by omega
    subst hin
    refine nx (sl 2 rfl (sl 4 rfl sn)) (el 10 rfl (el 8 rfl (el 9 rfl (el 110 rfl en)))) ?_
    refine tri_seq ?_
    refine tri_fz 8 rfl ?_
    refine tri_rdb (bl := [T.o 8, T.o 9]) (bl' := [T.l (cL (cQ K)) (ML b b.length), T.o 9]) 110 8 rfl rfl ⟨.inr ⟨rfl, rfl⟩, .inl rfl, trivial⟩ ?_
    refine tri_fz 9 rfl ?_
    refine tri_rdb (bl := [T.l (cL (cQ K)) (ML b b.length), T.o 9]) (bl' := [T.l (cL (cQ K)) (ML b b.length), T.l (cQ K) (SL b b.length)]) 110 9 rfl rfl ⟨.inl rfl, .inr ⟨rfl, rfl⟩, trivial⟩ ?_
    refine tri_reg mixed hcx ?_ _ _
    refine ld rfl rfl tyR rfl ?_
    refine st rfl rfl rfl tyR rfl ?_
    refine asg rfl ?_
    refine ⟨by kernel_rfl, ?_⟩
    refine nx (sl 2 rfl (sl 3 rfl sn)) (el 10 rfl (el 110 rfl en)) ?_
    refine tri_ret ?_
    repeat (first | refine pn_thenr ?_ | refine pn_blkr ?_)
    exact ret2 hcx rfl (rv_cell (c' := cx) (n := 0) rfl rfl tyR rfl) (rv_tmp rfl) (.refl _) en

theorem r05_Make_no {b : List (List Int)} {kb m K : Nat} (hno : ¬ Ok b b.length) (hbl : b.length ≤ 1048576) (hm : ∀ i, i < b.length → (b.getD i []).length = m) (hmm : m ≤ 1048576) (hkb : kb ≤ 1048576) (hmk : m * (kb + kb + 1) ≤ 17179869184) (hQ : ∀ i, i < b.length → Ok b i → ∀ k j, k ≤ j → j ≤ i → QB (Mr (gR b) k i j) K) (hM : ∀ i j, j < i → i < b.length → Ok b i → QB (mR b i j) K) (hK : K ≤ 268435456) : Fn Tryz.prog 107 [T.l (cL (cZi kb)) b] [] [] [] (T.tup [T.st [T.any, T.any], T.c (.bool false)]) := by
  refine fn_of Tryz.func107 rfl (by show 1 ≤ 115; decide) fun cx hcx => ?_
  refine tri_sub (sl 0 rfl sn) en ?_
  refine tri_seq ?_
  refine tri_reg mixed hcx ?_ _ _
  refine nw 10 zeR ?_
  refine asg rfl ?_
  refine ⟨by kernel_rfl, ?_⟩
  refine nx (sl 0 rfl (sl 2 rfl sn)) (el 10 rfl en) ?_
  refine tri_seq ?_
  refine tri_reg mixed hcx ?_ _ _
  refine nw 110 zeR ?_
  refine ⟨by kernel_rfl, ?_⟩
  refine nx (sl 0 rfl (sl 2 rfl (sl 4 rfl sn))) (el 10 rfl (el 110 rfl en)) ?_
  refine tri_seq ?_
  refine tri_seq ?_
  refine tri_nilb (cL (cQ K)) 37 (bl := [T.c (.slice none 0 0), T.c (.slice none 0 0)]) (bl' := [T.o 8, T.c (.slice none 0 0)]) 110 8 rfl ⟨.inr ⟨rfl, rfl⟩, .inl ⟨rfl, by show 8 ∉ []; decide⟩, trivial⟩ (by rw [hcx]; kernel_rfl) ?_
  refine tri_nilb (cQ K) 34 (bl := [T.o 8, T.c (.slice none 0 0)]) (bl' := [T.o 8, T.o 9]) 110 9 rfl ⟨.inl ⟨rfl, by show 9 ∉ [8]; decide⟩, .inr ⟨rfl, rfl⟩, trivial⟩ (by rw [hcx]; kernel_rfl) ?_
  refine tri_reg mixed hcx ?_ _ _
  refine asg rfl ?_
  refine ⟨by kernel_rfl, ?_⟩
  refine nx (sl 0 rfl (sl 2 rfl (sl 4 rfl (sl 5 rfl sn)))) (el 10 rfl (el 110 rfl (el 8 rfl (el 9 rfl en)))) ?_
  refine tri_block ?_
  refine tri_loop (ι := Nat) (fun i => [(0, T.l (cL (cZi kb)) b), (2, T.p 10 0), (4, T.p 110 0), (5, T.c (.int .i64 (i : Int)))]) (fun i => [(10, some (Ent.box 96 [T.c (.slice none 0 0), T.c (.slice none 0 0)])), (8, some (Ent.row (cL (cQ K)) 37 (ML b i))), (9, some (Ent.row (cQ K) 34 (SL b i))), (110, some (Ent.box 96 [T.o 8, T.o 9]))]) (fun i => b.length - i) (fun i => (i ≤ b.length) ∧ (Ok b i)) 0 ⟨Nat.zero_le _, fun k hk => absurd hk (Nat.not_lt_zero _)⟩ (sl 0 rfl (sl 2 rfl (sl 4 rfl (sl 5 rfl sn)))) (el 10 rfl (el 8 rfl (el 9 rfl (el 110 rfl en)))) ?_
  rintro i ⟨hi, hok⟩
  refine tri_sub (sl 0 rfl (sl 2 rfl (sl 4 rfl (sl 5 rfl sn)))) (el 10 rfl (el 8 rfl (el 9 rfl (el 110 rfl en)))) ?_
  refine tri_seq ?_
  refine tri_seq ?_
  refine tri_reg mixed hcx ?_ _ _
  refine mv rfl ?_
  refine mv rfl ?_
  refine ln slZss rfl ?_
  refine clt rfl rfl rfl ?_
  refine ⟨by kernel_rfl, ?_⟩
  refine nx (sl 0 rfl (sl 2 rfl (sl 4 rfl (sl 5 rfl (sl 15 rfl sn))))) (el 10 rfl (el 8 rfl (el 9 rfl (el 110 rfl en)))) ?_
  refine tri_if rfl (fun hc => ?_) (fun hc => ?_)
  · have hmi : (b.getD i (cL (cZi kb)).dflt).length = m := hm i (by omega)
    have hQi := hQ i (by omega) hok
    have hmk2 : (b.getD i (cL (cZi kb)).dflt).length * (kb + kb + 1) ≤ 17179869184 := by rw [hmi]; exact hmk
    have hMl : (ML b i).length = i := ML_len
    have hSl : (SL b i).length = i := SL_len
    refine tri_skip ?_
    refine nx (sl 0 rfl (sl 2 rfl (sl 4 rfl (sl 5 rfl sn)))) (el 10 rfl (el 8 rfl (el 9 rfl (el 110 rfl en)))) ?_
    refine tri_seq ?_
    refine tri_block ?_
    refine tri_seq ?_
    refine tri_reg mixed hcx ?_ _ _
    refine asg rfl ?_
    refine ⟨by kernel_rfl, ?_⟩
    refine nx (sl 0 rfl (sl 2 rfl (sl 4 rfl (sl 5 rfl (sl 6 rfl sn))))) (el 10 rfl (el 8 rfl (el 9 rfl (el 110 rfl en)))) ?_
    refine tri_seq ?_
    refine tri_seq ?_
    refine tri_nil 6 7 34 (cQ K) rfl (by rw [hcx]; kernel_rfl) ?_
    refine tri_reg mixed hcx ?_ _ _
    refine asg rfl ?_
    refine ⟨by kernel_rfl, ?_⟩
    refine nx (sl 0 rfl (sl 2 rfl (sl 4 rfl (sl 5 rfl (sl 6 rfl (sl 7 rfl sn)))))) (el 10 rfl (el 8 rfl (el 9 rfl (el 110 rfl (el 7 rfl en))))) ?_
    refine tri_block ?_
    refine tri_loop (ι := Nat) (fun j => [(0, T.l (cL (cZi kb)) b), (2, T.p 10 0), (4, T.p 110 0), (5, T.c (.int .i64 (i : Int))), (6, T.o 7), (7, T.c (.int .i64 (j : Int)))]) (fun j => [(10, some (Ent.box 96 [T.c (.slice none 0 0), T.c (.slice none 0 0)])), (8, some (Ent.row (cL (cQ K)) 37 (ML b i))), (9, some (Ent.row (cQ K) 34 (SL b i))), (110, some (Ent.box 96 [T.o 8, T.o 9])), (7, some (Ent.row (cQ K) 34 (mL b i j)))]) (fun j => i - j) (fun j => (j ≤ i)) 0 (Nat.zero_le _) (sl 0 rfl (sl 2 rfl (sl 4 rfl (sl 5 rfl (sl 6 rfl (sl 7 rfl sn)))))) (el 10 rfl (el 8 rfl (el 9 rfl (el 110 rfl (el 7 rfl en))))) ?_
    rintro j hj
    refine tri_sub (sl 0 rfl (sl 2 rfl (sl 4 rfl (sl 5 rfl (sl 6 rfl (sl 7 rfl sn)))))) (el 10 rfl (el 8 rfl (el 9 rfl (el 110 rfl (el 7 rfl en))))) ?_
    refine tri_seq ?_
    refine tri_seq ?_
    refine tri_reg mixed hcx ?_ _ _
    refine mv rfl ?_
    refine mv rfl ?_
    refine clt rfl rfl rfl ?_
    refine ⟨by kernel_rfl, ?_⟩
    refine nx (sl 0 rfl (sl 2 rfl (sl 4 rfl (sl 5 rfl (sl 6 rfl (sl 7 rfl (sl 20 rfl sn))))))) (el 10 rfl (el 8 rfl (el 9 rfl (el 110 rfl (el 7 rfl en))))) ?_
    refine tri_if rfl (fun hd => ?_) (fun hd => ?_)
    · have hmj : (b.getD j (cL (cZi kb)).dflt).length = m := hm j (by omega)
      have hsj : sR b j ≠ 0 := ok_ne hok (by omega)
      have hml : (mL b i j).length = j := mL_len
      have hMj : ((ML b i).getD j (cL (cQ K)).dflt).length = j := by rw [show (ML b i).getD j (cL (cQ K)).dflt = mL b j j from ML_at (by omega), mL_len]
      refine tri_skip ?_
      refine nx (sl 0 rfl (sl 2 rfl (sl 4 rfl (sl 5 rfl (sl 6 rfl (sl 7 rfl sn)))))) (el 10 rfl (el 8 rfl (el 9 rfl (el 110 rfl (el 7 rfl en))))) ?_
      refine tri_seq ?_
      refine tri_block ?_
      refine tri_seq ?_
      refine tri_reg mixed hcx ?_ _ _
      refine mv rfl ?_
      refine mv rfl ?_
      refine ix rfl rfl slZss ⟨rfl, by omega⟩ ?_
      refine lf rfl tyZs ?_
      refine mv rfl ?_
      refine mv rfl ?_
      refine ix rfl rfl slZss ⟨rfl, by omega⟩ ?_
      refine lf rfl tyZs ?_
      refine ca rfl (h := r05_Dot (by omega) (by omega) (by omega) (by omega) (by omega)) (hn := ?_)
      refine ca rfl (h := r03_Of (by omega)) (hn := ?_)
      refine nw 920 zeQ ?_
      refine st rfl rfl rfl tyQ rfl ?_
      refine ⟨by kernel_rfl, ?_⟩
      refine nx (sl 0 rfl (sl 2 rfl (sl 4 rfl (sl 5 rfl (sl 6 rfl (sl 7 rfl (sl 8 rfl sn))))))) (el 10 rfl (el 8 rfl (el 9 rfl (el 110 rfl (el 7 rfl (el 920 rfl en)))))) ?_
      refine tri_seq ?_
      refine tri_seq ?_
      refine tri_reg mixed hcx ?_ _ _
      refine asg rfl ?_
      refine ⟨by kernel_rfl, ?_⟩
      refine nx (sl 0 rfl (sl 2 rfl (sl 4 rfl (sl 5 rfl (sl 6 rfl (sl 7 rfl (sl 8 rfl (sl 9 rfl sn)))))))) (el 10 rfl (el 8 rfl (el 9 rfl (el 110 rfl (el 7 rfl (el 920 rfl en)))))) ?_
      refine tri_block ?_
      refine tri_loop (ι := Nat) (fun e => [(0, T.l (cL (cZi kb)) b), (2, T.p 10 0), (4, T.p 110 0), (5, T.c (.int .i64 (i : Int))), (6, T.o 7), (7, T.c (.int .i64 (j : Int))), (8, T.p 920 0), (9, T.c (.int .i64 (e : Int)))]) (fun e => [(10, some (Ent.box 96 [T.c (.slice none 0 0), T.c (.slice none 0 0)])), (8, some (Ent.row (cL (cQ K)) 37 (ML b i))), (9, some (Ent.row (cQ K) 34 (SL b i))), (110, some (Ent.box 96 [T.o 8, T.o 9])), (7, some (Ent.row (cQ K) 34 (mL b i j))), (920, some (Ent.box 34 [T.Q (Mr (gR b) e i j) K]))]) (fun e => j - e) (fun e => (e ≤ j)) 0 (Nat.zero_le _) (sl 0 rfl (sl 2 rfl (sl 4 rfl (sl 5 rfl (sl 6 rfl (sl 7 rfl (sl 8 rfl (sl 9 rfl sn)))))))) (el 10 rfl (el 8 rfl (el 9 rfl (el 110 rfl (el 7 rfl (ew 920 rfl (box_pack1 (q_qb rfl (hQi 0 j (by omega) (by omega)))) en)))))) ?_
      rintro e he
      refine tri_sub (sl 0 rfl (sl 2 rfl (sl 4 rfl (sl 5 rfl (sl 6 rfl (sl 7 rfl (sl 8 rfl (sl 9 rfl sn)))))))) (el 10 rfl (el 8 rfl (el 9 rfl (el 110 rfl (el 7 rfl (el 920 rfl en)))))) ?_
      refine tri_seq ?_
      refine tri_seq ?_
      refine tri_reg mixed hcx ?_ _ _
      refine mv rfl ?_
      refine mv rfl ?_
      refine clt rfl rfl rfl ?_
      refine ⟨by kernel_rfl, ?_⟩
      refine nx (sl 0 rfl (sl 2 rfl (sl 4 rfl (sl 5 rfl (sl 6 rfl (sl 7 rfl (sl 8 rfl (sl 9 rfl (sl 35 rfl sn))))))))) (el 10 rfl (el 8 rfl (el 9 rfl (el 110 rfl (el 7 rfl (el 920 rfl en)))))) ?_
      refine tri_if rfl (fun he2 => ?_) (fun he2 => ?_)
      · have hse : sR b e ≠ 0 := ok_ne hok (by omega)
        refine tri_skip ?_
        refine nx (sl 0 rfl (sl 2 rfl (sl 4 rfl (sl 5 rfl (sl 6 rfl (sl 7 rfl (sl 8 rfl (sl 9 rfl sn)))))))) (el 10 rfl (el 8 rfl (el 9 rfl (el 110 rfl (el 7 rfl (el 920 rfl en)))))) ?_
        refine tri_seq ?_
        refine tri_block ?_
        refine tri_reg mixed hcx ?_ _ _
        refine ld rfl rfl tyQ rfl ?_
        refine fa rfl fMu 0 ?_
        refine ld rfl rfl tyQss rfl ?_
        refine mv rfl ?_
        refine ixo rfl rfl rfl slQss ⟨rfl, by omega⟩ ?_
        refine lo _ rfl rfl tyQs ⟨rfl, rfl, by omega⟩ ?_
        refine mv rfl ?_
        refine ix rfl rfl slQs ⟨rfl, by omega⟩ ?_
        refine lf rfl tyQ ?_
        refine mv rfl ?_
        refine mv rfl ?_
        refine ixo rfl rfl rfl slQs ⟨rfl, by omega⟩ ?_
        refine lo _ rfl rfl tyQ ⟨rfl, rfl, by omega⟩ ?_
        refine ca rfl (h := r03_Mul (by omega) (by omega)) (hn := ?_)
        refine fa rfl fStar 1 ?_
        refine ld rfl rfl tyQs rfl ?_
        refine mv rfl ?_
        refine ixo rfl rfl rfl slQs ⟨rfl, by omega⟩ ?_
        refine lo _ rfl rfl tyQ ⟨rfl, rfl, by omega⟩ ?_
        refine ca rfl (h := r03_Mul (by omega) (by omega)) (hn := ?_)
        refine ca rfl (h := r03_Sub (by omega) (by omega)) (hn := ?_)
        refine st rfl rfl rfl tyQ rfl ?_
        refine ⟨by kernel_rfl, ?_⟩
        refine pn_blk ?_
        refine nx (sl 0 rfl (sl 2 rfl (sl 4 rfl (sl 5 rfl (sl 6 rfl (sl 7 rfl (sl 8 rfl (sl 9 rfl sn)))))))) (el 10 rfl (el 8 rfl (el 9 rfl (el 110 rfl (el 7 rfl (el 920 rfl en)))))) ?_
        refine tri_reg mixed hcx ?_ _ _
        refine mv rfl ?_
        refine ad (((e + 1 : Nat) : Int)) rfl rfl rfl (by omega) ?_
        refine asg rfl ?_
        refine ⟨by kernel_rfl, ?_⟩
        exact pn_back (e + 1) (by first | omega | (dsimp only; omega)) (by omega) (sl 0 rfl (sl 2 rfl (sl 4 rfl (sl 5 rfl (sl 6 rfl (sl 7 rfl (sl 8 rfl (sl 9 rfl sn)))))))) (el 10 rfl (el 8 rfl (el 9 rfl (el 110 rfl (el 7 rfl (ew 920 rfl (box_pack1 (q_qb (by rw [show (ML b i).getD j (cL (cQ K)).dflt = mL b j j from ML_at (by omega), show (mL b j j).getD e (cQ K).dflt = mR b j e from mL_at (by omega), show (mL b i j).getD e (cQ K).dflt = mR b i e from mL_at (by omega), show (SL b i).getD e (cQ K).dflt = sR b e from SL_at (by omega)]; exact mr_step b hse) (hQi (e + 1) j (by omega) (by omega)))) en))))))
      · refine tri_exit ?_
        repeat (first | refine pn_then ?_ | refine pn_oth (by decide) ?_)
        refine pn_ex ?_
        obtain rfl : j = e := by omega
        refine nx (sl 0 rfl (sl 2 rfl (sl 4 rfl (sl 5 rfl (sl 6 rfl (sl 7 rfl (sl 8 rfl sn))))))) (el 10 rfl (el 8 rfl (el 9 rfl (el 110 rfl (el 7 rfl (el 920 rfl en)))))) ?_
        refine tri_reg mixed hcx ?_ _ _
        refine mv rfl ?_
        refine ld rfl rfl tyQ rfl ?_
        refine fa rfl fStar 1 ?_
        refine ld rfl rfl tyQs rfl ?_
        refine mv rfl ?_
        refine ixo rfl rfl rfl slQs ⟨rfl, by omega⟩ ?_
        refine lo _ rfl rfl tyQ ⟨rfl, rfl, by omega⟩ ?_
        refine ca rfl (h := r03_Div (by rw [show (SL b i).getD j (cQ K).dflt = sR b j from SL_at (by omega)]; exact hsj) (by omega) (by omega)) (hn := ?_)
        refine bs (c := cQ K) (xs := [mR b i j]) slQs rfl ⟨q_qb (by rw [show (SL b i).getD j (cQ K).dflt = sR b j from SL_at (by omega)]; rfl) (hM i j (by omega) (by omega) hok), trivial⟩ ?_
        refine ap 1419 rfl rfl rfl slQs (by simp only [List.length_cons, List.length_nil]; omega) (by decide) ?_
        refine asg rfl ?_
        refine ⟨by kernel_rfl, ?_⟩
        refine pn_blk ?_
        refine nx (sl 0 rfl (sl 2 rfl (sl 4 rfl (sl 5 rfl (sl 6 rfl (sl 7 rfl sn)))))) (el 10 rfl (el 8 rfl (el 9 rfl (el 110 rfl (el 920 rfl (el 1419 rfl en)))))) ?_
        refine tri_reg mixed hcx ?_ _ _
        refine mv rfl ?_
        refine ad (((j + 1 : Nat) : Int)) rfl rfl rfl (by omega) ?_
        refine asg rfl ?_
        refine ⟨by kernel_rfl, ?_⟩
        refine pn_sub (sl 0 rfl (sl 2 rfl (sl 4 rfl (sl 5 rfl (sl 6 rfl (sl 7 rfl sn)))))) (el 10 rfl (el 8 rfl (el 9 rfl (el 110 rfl (el 920 rfl (el 1419 rfl en)))))) ?_
        refine pn_ren 6 7 1419 rfl rfl (by rw [hcx]; kernel_rfl) ?_
        exact pn_back (j + 1) (by first | omega | (dsimp only; omega)) (by omega) (sl 0 rfl (sl 2 rfl (sl 4 rfl (sl 5 rfl (sl 6 rfl (sl 7 rfl sn)))))) (el 10 rfl (el 8 rfl (el 9 rfl (el 110 rfl (ew 7 rfl (.of (by rw [mL_succ])) en)))))
    · refine tri_exit ?_
      repeat (first | refine pn_then ?_ | refine pn_oth (by decide) ?_)
      refine pn_ex ?_
      obtain rfl : i = j := by omega
      refine nx (sl 0 rfl (sl 2 rfl (sl 4 rfl (sl 5 rfl (sl 6 rfl sn))))) (el 10 rfl (el 8 rfl (el 9 rfl (el 110 rfl (el 7 rfl en))))) ?_
      refine tri_seq ?_
      refine tri_reg mixed hcx ?_ _ _
      refine mv rfl ?_
      refine mv rfl ?_
      refine ix rfl rfl slZss ⟨rfl, by omega⟩ ?_
      refine lf rfl tyZs ?_
      refine mv rfl ?_
      refine mv rfl ?_
      refine ix rfl rfl slZss ⟨rfl, by omega⟩ ?_
      refine lf rfl tyZs ?_
      refine ca rfl (h := r05_Dot (by omega) (by omega) (by omega) (by omega) (by omega)) (hn := ?_)
      refine ca rfl (h := r03_Of (by omega)) (hn := ?_)
      refine nw 1520 zeQ ?_
      refine st rfl rfl rfl tyQ rfl ?_
      refine ⟨by kernel_rfl, ?_⟩
      refine nx (sl 0 rfl (sl 2 rfl (sl 4 rfl (sl 5 rfl (sl 6 rfl (sl 10 rfl sn)))))) (el 10 rfl (el 8 rfl (el 9 rfl (el 110 rfl (el 7 rfl (el 1520 rfl en)))))) ?_
      refine tri_seq ?_
      refine tri_seq ?_
      refine tri_reg mixed hcx ?_ _ _
      refine asg rfl ?_
      refine ⟨by kernel_rfl, ?_⟩
      refine nx (sl 0 rfl (sl 2 rfl (sl 4 rfl (sl 5 rfl (sl 6 rfl (sl 10 rfl (sl 11 rfl sn))))))) (el 10 rfl (el 8 rfl (el 9 rfl (el 110 rfl (el 7 rfl (el 1520 rfl en)))))) ?_
      refine tri_block ?_
      refine tri_loop (ι := Nat) (fun e => [(0, T.l (cL (cZi kb)) b), (2, T.p 10 0), (4, T.p 110 0), (5, T.c (.int .i64 (i : Int))), (6, T.o 7), (10, T.p 1520 0), (11, T.c (.int .i64 (e : Int)))]) (fun e => [(10, some (Ent.box 96 [T.c (.slice none 0 0), T.c (.slice none 0 0)])), (8, some (Ent.row (cL (cQ K)) 37 (ML b i))), (9, some (Ent.row (cQ K) 34 (SL b i))), (110, some (Ent.box 96 [T.o 8, T.o 9])), (7, some (Ent.row (cQ K) 34 (mL b i i))), (1520, some (Ent.box 34 [T.Q (Mr (gR b) e i i) K]))]) (fun e => i - e) (fun e => (e ≤ i)) 0 (Nat.zero_le _) (sl 0 rfl (sl 2 rfl (sl 4 rfl (sl 5 rfl (sl 6 rfl (sl 10 rfl (sl 11 rfl sn))))))) (el 10 rfl (el 8 rfl (el 9 rfl (el 110 rfl (el 7 rfl (ew 1520 rfl (box_pack1 (q_qb rfl (hQi 0 i (by omega) (by omega)))) en)))))) ?_
      rintro e he
      refine tri_sub (sl 0 rfl (sl 2 rfl (sl 4 rfl (sl 5 rfl (sl 6 rfl (sl 10 rfl (sl 11 rfl sn))))))) (el 10 rfl (el 8 rfl (el 9 rfl (el 110 rfl (el 7 rfl (el 1520 rfl en)))))) ?_
      have hml : (mL b i i).length = i := mL_len
      refine tri_seq ?_
      refine tri_seq ?_
      refine tri_reg mixed hcx ?_ _ _
      refine mv rfl ?_
      refine mv rfl ?_
      refine clt rfl rfl rfl ?_
      refine ⟨by kernel_rfl, ?_⟩
      refine nx (sl 0 rfl (sl 2 rfl (sl 4 rfl (sl 5 rfl (sl 6 rfl (sl 10 rfl (sl 11 rfl (sl 81 rfl sn)))))))) (el 10 rfl (el 8 rfl (el 9 rfl (el 110 rfl (el 7 rfl (el 1520 rfl en)))))) ?_
      refine tri_if rfl (fun he3 => ?_) (fun he3 => ?_)
      · have hse : sR b e ≠ 0 := ok_ne hok (by omega)
        refine tri_skip ?_
        refine nx (sl 0 rfl (sl 2 rfl (sl 4 rfl (sl 5 rfl (sl 6 rfl (sl 10 rfl (sl 11 rfl sn))))))) (el 10 rfl (el 8 rfl (el 9 rfl (el 110 rfl (el 7 rfl (el 1520 rfl en)))))) ?_
        refine tri_seq ?_
        refine tri_block ?_
        refine tri_reg mixed hcx ?_ _ _
        refine ld rfl rfl tyQ rfl ?_
        refine mv rfl ?_
        refine mv rfl ?_
        refine ixo rfl rfl rfl slQs ⟨rfl, by omega⟩ ?_
        refine lo _ rfl rfl tyQ ⟨rfl, rfl, by omega⟩ ?_
        refine ca rfl (h := r05_square (by omega)) (hn := ?_)
        refine fa rfl fStar 1 ?_
        refine ld rfl rfl tyQs rfl ?_
        refine mv rfl ?_
        refine ixo rfl rfl rfl slQs ⟨rfl, by omega⟩ ?_
        refine lo _ rfl rfl tyQ ⟨rfl, rfl, by omega⟩ ?_
        refine ca rfl (h := r03_Mul (by omega) (by omega)) (hn := ?_)
        refine ca rfl (h := r03_Sub (by omega) (by omega)) (hn := ?_)
        refine st rfl rfl rfl tyQ rfl ?_
        refine ⟨by kernel_rfl, ?_⟩
        refine pn_blk ?_
        refine nx (sl 0 rfl (sl 2 rfl (sl 4 rfl (sl 5 rfl (sl 6 rfl (sl 10 rfl (sl 11 rfl sn))))))) (el 10 rfl (el 8 rfl (el 9 rfl (el 110 rfl (el 7 rfl (el 1520 rfl en)))))) ?_
        refine tri_reg mixed hcx ?_ _ _
        refine mv rfl ?_
        refine ad (((e + 1 : Nat) : Int)) rfl rfl rfl (by omega) ?_
        refine asg rfl ?_
        refine ⟨by kernel_rfl, ?_⟩
        exact pn_back (e + 1) (by first | omega | (dsimp only; omega)) (by omega) (sl 0 rfl (sl 2 rfl (sl 4 rfl (sl 5 rfl (sl 6 rfl (sl 10 rfl (sl 11 rfl sn))))))) (el 10 rfl (el 8 rfl (el 9 rfl (el 110 rfl (el 7 rfl (ew 1520 rfl (box_pack1 (q_qb (by rw [show (mL b i i).getD e (cQ K).dflt = mR b i e from mL_at (by omega), show (SL b i).getD e (cQ K).dflt = sR b e from SL_at (by omega)]; exact mr_step2 b hse) (hQi (e + 1) i (by omega) (by omega)))) en))))))
      · refine tri_exit ?_
        repeat (first | refine pn_then ?_ | refine pn_oth (by decide) ?_)
        refine pn_ex ?_
        obtain rfl : i = e := by omega
        refine nx (sl 0 rfl (sl 2 rfl (sl 4 rfl (sl 5 rfl (sl 6 rfl (sl 10 rfl sn)))))) (el 10 rfl (el 8 rfl (el 9 rfl (el 110 rfl (el 7 rfl (el 1520 rfl en)))))) ?_
        refine tri_seq ?_
        refine tri_seq ?_
        by_cases hps : 0 < sR b i
        · have hnx : Ok b (i + 1) := fun k hk => by rcases Nat.lt_or_eq_of_le (Nat.le_of_lt_succ hk) with h8 | h8; exact hok k h8; rw [h8]; exact hps
          have hsg : sg (Mr (gR b) i i i).num = 1 := sg_pos (q_pos.1 hps)
          refine tri_sub (sl 0 rfl (sl 2 rfl (sl 4 rfl (sl 5 rfl (sl 6 rfl (sl 10 rfl sn)))))) (el 10 rfl (el 8 rfl (el 9 rfl (el 110 rfl (el 7 rfl (ew 1520 rfl box_open en)))))) ?_
          refine tri_reg mixed hcx ?_ _ _
          refine fa rfl fNum 0 ?_
          refine ld rfl rfl tyZ rfl ?_
          refine ca rfl (h := r02_Sign (by omega)) (hn := ?_)
          refine cle rfl rfl (decide_eq_false (by omega)) ?_
          refine ⟨by kernel_rfl, ?_⟩
          refine nx (sl 0 rfl (sl 2 rfl (sl 4 rfl (sl 5 rfl (sl 6 rfl (sl 10 rfl (sl 100 rfl sn))))))) (el 10 rfl (el 8 rfl (el 9 rfl (el 110 rfl (el 7 rfl (el 1520 rfl en)))))) ?_
          refine tri_false rfl rfl ?_
          refine tri_skip ?_
          refine nx (sl 0 rfl (sl 2 rfl (sl 4 rfl (sl 5 rfl (sl 6 rfl (sl 10 rfl sn)))))) (el 10 rfl (el 8 rfl (el 9 rfl (el 110 rfl (el 7 rfl (el 1520 rfl en)))))) ?_
          refine tri_seq ?_
          refine tri_fz 7 rfl ?_
          refine tri_rd 6 7 rfl rfl ?_
          refine tri_reg mixed hcx ?_ _ _
          refine fa rfl fMu 0 ?_
          refine ld rfl rfl tyQss rfl ?_
          refine mv rfl ?_
          refine bs (c := cL (cQ K)) (xs := [mL b i i]) slQss rfl ⟨.refl _, trivial⟩ ?_
          refine ap 2214 rfl rfl rfl slQss (by simp only [List.length_cons, List.length_nil]; omega) (by decide) ?_
          refine fa rfl fMu 0 ?_
          refine st rfl rfl rfl tyQss rfl ?_
          refine ⟨by kernel_rfl, ?_⟩
          refine nx (sl 0 rfl (sl 2 rfl (sl 4 rfl (sl 5 rfl (sl 10 rfl sn))))) (el 10 rfl (el 9 rfl (el 110 rfl (el 1520 rfl (el 2214 rfl en))))) ?_
          refine tri_reg mixed hcx ?_ _ _
          refine fa rfl fStar 1 ?_
          refine ld rfl rfl tyQs rfl ?_
          refine ld rfl rfl tyQ rfl ?_
          refine bs (c := cQ K) (xs := [sR b i]) slQs rfl ⟨.refl _, trivial⟩ ?_
          refine ap 2314 rfl rfl rfl slQs (by simp only [List.length_cons, List.length_nil]; omega) (by decide) ?_
          refine fa rfl fStar 1 ?_
          refine st rfl rfl rfl tyQs rfl ?_
          refine ⟨by kernel_rfl, ?_⟩
          refine pn_blk ?_
          refine nx (sl 0 rfl (sl 2 rfl (sl 4 rfl (sl 5 rfl sn)))) (el 10 rfl (el 110 rfl (el 1520 rfl (el 2214 rfl (el 2314 rfl en))))) ?_
          refine tri_reg mixed hcx ?_ _ _
          refine mv rfl ?_
          refine ad (((i + 1 : Nat) : Int)) rfl rfl rfl (by omega) ?_
          refine asg rfl ?_
          refine ⟨by kernel_rfl, ?_⟩
          refine pn_sub (sl 0 rfl (sl 2 rfl (sl 4 rfl (sl 5 rfl sn)))) (el 10 rfl (el 110 rfl (el 2214 rfl (el 2314 rfl en)))) ?_
          refine pn_renb (bl := [T.o 2214, T.o 2314]) (bl' := [T.o 8, T.o 2314]) 110 8 2214 rfl rfl ⟨.inr ⟨rfl, rfl⟩, .inl ⟨rfl, by show 8 ∉ [2314]; decide⟩, trivial⟩ (by rw [hcx]; kernel_rfl) rfl ?_
          refine pn_renb (bl := [T.o 8, T.o 2314]) (bl' := [T.o 8, T.o 9]) 110 9 2314 rfl rfl ⟨.inl ⟨rfl, by show 9 ∉ [8]; decide⟩, .inr ⟨rfl, rfl⟩, trivial⟩ (by rw [hcx]; kernel_rfl) rfl ?_
          exact pn_back (i + 1) (by first | omega | (dsimp only; omega)) ⟨by omega, hnx⟩ (sl 0 rfl (sl 2 rfl (sl 4 rfl (sl 5 rfl sn)))) (el 10 rfl (ew 8 rfl (.of (by rw [ML_succ])) (ew 9 rfl (.of (by rw [SL_succ])) (el 110 rfl en))))
        · have hsg : sg (Mr (gR b) i i i).num ≤ 0 := sg_le.2 (Int.not_lt.1 (mt q_pos.2 hps))
          refine tri_sub (sl 0 rfl (sl 2 rfl (sl 4 rfl (sl 5 rfl (sl 6 rfl (sl 10 rfl sn)))))) (el 10 rfl (el 8 rfl (el 9 rfl (el 110 rfl (el 7 rfl (ew 1520 rfl box_open en)))))) ?_
          refine tri_reg mixed hcx ?_ _ _
          refine fa rfl fNum 0 ?_
          refine ld rfl rfl tyZ rfl ?_
          refine ca rfl (h := r02_Sign (by omega)) (hn := ?_)
          refine cle rfl rfl (decide_eq_true (by omega)) ?_
          refine ⟨by kernel_rfl, ?_⟩
          refine nx (sl 0 rfl (sl 2 rfl (sl 4 rfl (sl 5 rfl (sl 6 rfl (sl 10 rfl (sl 100 rfl sn))))))) (el 10 rfl (el 8 rfl (el 9 rfl (el 110 rfl (el 7 rfl (el 1520 rfl en)))))) ?_
          refine tri_true rfl rfl ?_
          refine tri_seq ?_
          refine tri_fz 8 rfl ?_
          refine tri_rdb (bl := [T.o 8, T.o 9]) (bl' := [T.l (cL (cQ K)) (ML b i), T.o 9]) 110 8 rfl rfl ⟨.inr ⟨rfl, rfl⟩, .inl rfl, trivial⟩ ?_
          refine tri_fz 9 rfl ?_
          refine tri_rdb (bl := [T.l (cL (cQ K)) (ML b i), T.o 9]) (bl' := [T.l (cL (cQ K)) (ML b i), T.l (cQ K) (SL b i)]) 110 9 rfl rfl ⟨.inl rfl, .inr ⟨rfl, rfl⟩, trivial⟩ ?_
          refine tri_reg mixed hcx ?_ _ _
          refine ld rfl rfl tyR rfl ?_
          refine st rfl rfl rfl tyR rfl ?_
          refine asg rfl ?_
          refine ⟨by kernel_rfl, ?_⟩
          refine nx (sl 2 rfl (sl 3 rfl sn)) (el 10 rfl (el 110 rfl (el 7 rfl (el 1520 rfl en)))) ?_
          refine tri_ret ?_
          repeat (first | refine pn_thenr ?_ | refine pn_blkr ?_)
          exact ret2 hcx rfl (rv_cell (c' := cx) (n := 0) rfl rfl tyR rfl) (rv_tmp rfl) (tup_le ⟨st_le (l := [T.l (cL (cQ K)) (ML b i), T.l (cQ K) (SL b i)]) (l' := [T.any, T.any]) ⟨any_l, any_l, trivial⟩, .refl _, trivial⟩) en
  · refine tri_exit ?_
    repeat (first | refine pn_then ?_ | refine pn_oth (by decide) ?_)
    refine pn_ex ?_
    exfalso
    exact hno ((show i = b.length by omega) ▸ hok)
end Go.Proofs.YtekghdfbhbhigaaGreat.V
/- The data of rows: how large, and that the squared length of a sum of rows is what the data say. -/
set_option linter.unusedVariables false
namespace Go.Proofs.YtekghdfbhbhigaaGreat.V
open Mt Nml
theorem RI.row {b : List (List Int)} {D : List Int} {L : List (List Int)} {S i : Nat} (hB : BI S i D L) (hS : ∀ j, j ≤ i → zl (gU b i j) ≤ S) : ∀ j, j ≤ i + 1 → RI S j (rowU b D L i j)
  | 0, _ => RI.zero S
  | j + 1, hj => by
    have h := RI.row hB hS j (by omega)
    unfold rowU
    exact h.snoc (red_bd hB h (by omega) (hS j (by omega)) (Nat.le_refl _))
theorem bld_BI {b : List (List Int)} {S : Nat} (hS : ∀ i j, i < b.length → j ≤ i → zl (gU b i j) ≤ S) : ∀ {i : Nat} {D : List Int} {L : List (List Int)}, i ≤ b.length → bld b i = some (D, L) → BI S i D L
  | 0, D, L, _, h => by cases h; exact BI.zero S
  | i + 1, D, L, hi, h => by
    obtain ⟨D', L', h1, h2, h3⟩ := bld_prev h
    cases h3
    have hB := bld_BI hS (by omega) h1
    exact hB.step (RI.row hB (fun j hj => hS i j (by omega) hj) (i + 1) (Nat.le_refl _)) h2
theorem Ok.mono {b : List (List Int)} {m n : Nat} (h : Ok b n) (hm : m ≤ n) : Ok b m := fun k hk => h k (by omega)
/-- A numerator, and its size. -/
theorem num_bd {b : List (List Int)} {S : Nat} (hS : ∀ i j, i < b.length → j ≤ i → zl (gU b i j) ≤ S) {i j k : Nat} (hok : Ok b i) (hi : i < b.length) (hk : k ≤ j) (hj : j ≤ i) : ∃ z : Int, (z : Rat) = pb b k * Mr (gR b) k i j ∧ zl z ≤ bd S k := by
  obtain ⟨D, L, hD⟩ := bld_of_ok hok
  have hB := bld_BI hS (by omega) hD
  have hI := bld_DI hD
  have hR := RI.row hB (fun j hj => hS i j hi hj) j (by omega)
  exact ⟨_, red_exact hI hj (fun k hk => row_exact hI j (by omega) k hk) k hk, red_bd hB hR hj (hS i j hi hj) hk⟩
theorem den_bd {b : List (List Int)} {S : Nat} (hS : ∀ i j, i < b.length → j ≤ i → zl (gU b i j) ≤ S) (h1 : 1 ≤ S) {k : Nat} (hok : Ok b k) (hi : k ≤ b.length) : ∃ z : Int, (z : Rat) = pb b k ∧ zl z ≤ bd S k ∧ z ≠ 0 := by
  have hp := rat_pos_ne (pb_pos hok k (Nat.le_refl _))
  have nz : ∀ z : Int, (z : Rat) = pb b k → z ≠ 0 := fun z e h => hp (by rw [← e, h]; rfl)
  cases k with
  | zero => exact ⟨1, rfl, by rw [bd_zero]; exact Nat.le_trans zl_one h1, by decide⟩
  | succ k =>
    obtain ⟨z, h2, h3⟩ := num_bd hS (hok.mono (Nat.le_succ k)) (show k < b.length by omega) (Nat.le_refl k) (Nat.le_refl k)
    rw [← pb_succ] at h2
    exact ⟨z, h2, Nat.le_trans h3 (bd_mono (Nat.le_succ k)), nz z h2⟩
theorem mr_QB {b : List (List Int)} {S : Nat} (hS : ∀ i j, i < b.length → j ≤ i → zl (gU b i j) ≤ S) (h1 : 1 ≤ S) {i j k : Nat} (hok : Ok b i) (hi : i < b.length) (hk : k ≤ j) (hj : j ≤ i) : QB (Mr (gR b) k i j) (bd S k) := by
  obtain ⟨z, e1, b1⟩ := num_bd hS hok hi hk hj
  obtain ⟨d, e2, b2, n2⟩ := den_bd hS h1 (hok.mono (show k ≤ i by omega)) (by omega)
  have e : Mr (gR b) k i j = (z : Rat) / (d : Rat) := by
    have h0 := rat_ne n2
    rw [e2] at h0
    rw [e1, e2, Rat.mul_comm, Rat.mul_div_cancel h0]
  rw [e]
  have := qb_div b1 b2 n2
  rwa [Nat.max_self] at this
theorem mR_QB {b : List (List Int)} {S : Nat} (hS : ∀ i j, i < b.length → j ≤ i → zl (gU b i j) ≤ S) {i j : Nat} (hok : Ok b i) (hi : i < b.length) (hj : j < i) : QB (mR b i j) (bd S j) := by
  obtain ⟨z, e1, b1⟩ := num_bd hS hok hi (Nat.le_refl j) (by omega)
  obtain ⟨d, e2, b2⟩ := num_bd hS (hok.mono (show j ≤ i by omega)) (show j < b.length by omega) (Nat.le_refl j) (Nat.le_refl j)
  have hp := rat_pos_ne (pb_pos (hok.mono (show j ≤ i by omega)) j (Nat.le_refl _))
  have hm := ok_ne hok hj
  have n2 : d ≠ 0 := fun h => by
    rw [h] at e2
    rcases Rat.mul_eq_zero.1 e2.symm with h | h
    · exact hp h
    · exact hm h
  have e : mR b i j = (z : Rat) / (d : Rat) := by
    unfold mR
    rw [e1, e2]
    generalize Mr (gR b) j j j = m at hm
    generalize Mr (gR b) j i j = x
    generalize pb b j = p at hp
    grind
  rw [e]
  have := qb_div b1 b2 n2
  rwa [Nat.max_self] at this
/-- Sums of fractions. -/
def sumN (f : Nat → Rat) : Nat → Rat
  | 0 => 0
  | n + 1 => sumN f n + f n
theorem sum_congr {f g : Nat → Rat} : ∀ {n : Nat}, (∀ i, i < n → f i = g i) → sumN f n = sumN g n
  | 0, _ => rfl
  | n + 1, h => by show sumN f n + f n = sumN g n + g n; rw [sum_congr fun i hi => h i (by omega), h n (by omega)]
theorem sum_add (f g : Nat → Rat) : ∀ n, sumN (fun i => f i + g i) n = sumN f n + sumN g n
  | 0 => by show (0 : Rat) = 0 + 0; grind
  | n + 1 => by show sumN _ n + (f n + g n) = sumN f n + f n + (sumN g n + g n); rw [sum_add f g n]; grind
theorem sum_mul (c : Rat) (f : Nat → Rat) : ∀ n, sumN (fun i => c * f i) n = c * sumN f n
  | 0 => by show (0 : Rat) = c * 0; grind
  | n + 1 => by show sumN _ n + c * f n = c * (sumN f n + f n); rw [sum_mul c f n]; grind
theorem sum_zero {f : Nat → Rat} {n : Nat} (h : ∀ i, i < n → f i = 0) : sumN f n = 0 := by
  rw [sum_congr (g := fun _ => 0 * 0) fun i hi => by rw [h i hi]; grind]
  rw [sum_mul]; grind
theorem sum_swap (f : Nat → Nat → Rat) (m : Nat) : ∀ n, sumN (fun i => sumN (f i) m) n = sumN (fun j => sumN (fun i => f i j) n) m
  | 0 => by show (0 : Rat) = sumN (fun _ => 0) m; exact (sum_zero fun _ _ => rfl).symm
  | n + 1 => by
    show sumN _ n + sumN (f n) m = sumN (fun j => sumN (fun i => f i j) n + f n j) m
    rw [sum_swap f m n, sum_add]
/-- What elimination has done away with. -/
theorem mr_zero {b : List (List Int)} {n : Nat} (h : Ok b n) : ∀ k, k ≤ n → ∀ j, j < k → ∀ c, Mr (gR b) k j c = 0
  | 0, _, j, hj, c => absurd hj (Nat.not_lt_zero _)
  | k + 1, hk, j, hj, c => by
    show Mr (gR b) k j c + -(Mr (gR b) k j k / Mr (gR b) k k k) * Mr (gR b) k k c = 0
    have hm := ok_ne h (show k < n by omega)
    rcases Nat.lt_or_eq_of_le (Nat.le_of_lt_succ hj) with h1 | h1
    · rw [mr_zero h k (by omega) j h1 c, mr_zero h k (by omega) j h1 k]
      rw [Rat.div_def]; grind
    · subst h1
      generalize Mr (gR b) j j j = m at hm
      generalize Mr (gR b) j j c = x
      grind
/-- The form that is left behind k steps. -/
def QF (b : List (List Int)) (x : Nat → Rat) (n k : Nat) : Rat := sumN (fun j => x j * sumN (fun l => x l * Mr (gR b) k j l) n) n
def YF (b : List (List Int)) (x : Nat → Rat) (n k : Nat) : Rat := sumN (fun j => x j * Mr (gR b) k j k) n / Mr (gR b) k k k
theorem qf_step {b : List (List Int)} {x : Nat → Rat} {n k : Nat} (h : Mr (gR b) k k k ≠ 0) : QF b x n k = QF b x n (k + 1) + YF b x n k * YF b x n k * sR b k := by
  have e1 : ∀ j, sumN (fun l => x l * Mr (gR b) k j l) n = sumN (fun l => x l * Mr (gR b) (k + 1) j l) n + Mr (gR b) k j k / Mr (gR b) k k k * sumN (fun l => x l * Mr (gR b) k k l) n := fun j => by
    rw [← sum_mul, ← sum_add]
    refine sum_congr fun l _ => ?_
    show _ = x l * (Mr (gR b) k j l + -(Mr (gR b) k j k / Mr (gR b) k k k) * Mr (gR b) k k l) + _
    grind
  have e2 : sumN (fun l => x l * Mr (gR b) k k l) n = sumN (fun l => x l * Mr (gR b) k l k) n := sum_congr fun l _ => by rw [mr_symm (gR_symm b) k k l]
  unfold QF
  rw [sum_congr (g := fun j => x j * sumN (fun l => x l * Mr (gR b) (k + 1) j l) n + (sumN (fun l => x l * Mr (gR b) k l k) n / Mr (gR b) k k k) * (x j * Mr (gR b) k j k)) (fun j _ => by rw [e1, e2, Rat.div_def, Rat.div_def]; grind), sum_add, sum_mul]
  congr 1
  unfold YF sR
  generalize sumN (fun l => x l * Mr (gR b) k l k) n = s
  generalize Mr (gR b) k k k = m at h
  grind
theorem qf_end {b : List (List Int)} {x : Nat → Rat} {n : Nat} (h : Ok b n) : QF b x n n = 0 :=
  sum_zero fun j hj => by rw [sum_zero (f := fun l => x l * Mr (gR b) n j l) fun l _ => by rw [mr_zero h n (Nat.le_refl _) j hj l]; grind]; grind
theorem qf_sum {b : List (List Int)} {x : Nat → Rat} {n : Nat} (h : Ok b n) : ∀ k, k ≤ n → QF b x n 0 = QF b x n k + sumN (fun i => YF b x n i * YF b x n i * sR b i) k
  | 0, _ => by show _ = _ + (0 : Rat); grind
  | k + 1, hk => by
    show _ = _ + (sumN _ k + _)
    rw [qf_sum h k (by omega), qf_step (ok_ne h (show k < n by omega))]
    grind
theorem qf_all {b : List (List Int)} {x : Nat → Rat} {n : Nat} (h : Ok b n) : sumN (fun i => YF b x n i * YF b x n i * sR b i) n = QF b x n 0 := by
  rw [qf_sum h n (Nat.le_refl _), qf_end h]; grind
theorem sum_split (f : Nat → Rat) (m : Nat) : ∀ d, sumN f (m + d) = sumN f m + sumN (fun i => f (m + i)) d
  | 0 => by show _ = _ + (0 : Rat); rw [Nat.add_zero]; grind
  | d + 1 => by show sumN f (m + d) + f (m + d) = _ + (sumN _ d + _); rw [sum_split f m d]; grind
/-- The data's numbers as fractions. -/
theorem DI.star {b : List (List Int)} {n : Nat} {D : List Int} {L : List (List Int)} (h : DI b n D L) {i : Nat} (hi : i < n) : ((D.getD (i + 1) 0 : Int) : Rat) / ((D.getD i 0 : Int) : Rat) = sR b i := by
  have hp := rat_pos_ne (pb_pos h.ok i (by omega))
  rw [h.d (i + 1) (by omega), h.d i (by omega), pb_succ]
  show pb b i * sR b i / pb b i = _
  generalize sR b i = s
  generalize pb b i = p at hp
  grind
theorem DI.mu {b : List (List Int)} {n : Nat} {D : List Int} {L : List (List Int)} (h : DI b n D L) {i j : Nat} (hi : i < n) (hj : j < i) : (((L.getD i []).getD j 0 : Int) : Rat) / ((D.getD (j + 1) 0 : Int) : Rat) = mR b i j := by
  have hp := rat_pos_ne (pb_pos h.ok j (by omega))
  have hm := ok_ne h.ok (show j < n by omega)
  rw [h.d (j + 1) (by omega), h.l i j hi hj, pb_succ]
  unfold mR
  generalize Mr (gR b) j j j = m at hm
  generalize Mr (gR b) j i j = x
  generalize pb b j = p at hp
  grind
theorem yU_YF {b : List (List Int)} {n : Nat} {D : List Int} {L : List (List Int)} (h : DI b n D L) (x : List Int) {i : Nat} (hi : i < n) : ∀ t, i + 1 + t ≤ n → yU D L x i t = sumN (fun j => ((x.getD j 0 : Int) : Rat) * Mr (gR b) i j i) (i + 1 + t) / Mr (gR b) i i i
  | 0, _ => by
    have hm := ok_ne h.ok hi
    show ((x.getD i 0 : Int) : Rat) = (sumN (fun j => ((x.getD j 0 : Int) : Rat) * Mr (gR b) i j i) i + ((x.getD i 0 : Int) : Rat) * Mr (gR b) i i i) / _
    rw [sum_zero (n := i) (fun j hj => by rw [mr_zero h.ok i (by omega) j hj i]; grind)]
    generalize Mr (gR b) i i i = m at hm
    grind
  | t + 1, ht => by
    have hm := ok_ne h.ok hi
    have e := h.mu (i := i + 1 + t) (j := i) (by omega) (by omega)
    show yU D L x i t + ((x.getD (i + 1 + t) 0 * (L.getD (i + 1 + t) []).getD i 0 : Int) : Rat) / ((D.getD (i + 1) 0 : Int) : Rat) = (sumN (fun j => ((x.getD j 0 : Int) : Rat) * Mr (gR b) i j i) (i + 1 + t) + ((x.getD (i + 1 + t) 0 : Int) : Rat) * Mr (gR b) i (i + 1 + t) i) / _
    rw [yU_YF h x hi t (by omega), ← mul_swap, e]
    unfold mR
    generalize Mr (gR b) i i i = m at hm
    grind
theorem sU_sum {b : List (List Int)} {n : Nat} {D : List Int} {L : List (List Int)} (h : DI b n D L) (x : List Int) : ∀ i, i ≤ n → sU D L x n i = sumN (fun k => YF b (fun j => ((x.getD j 0 : Int) : Rat)) n k * YF b (fun j => ((x.getD j 0 : Int) : Rat)) n k * sR b k) i
  | 0, _ => rfl
  | i + 1, hi => by
    show sU D L x n i + yU D L x i (n - (i + 1)) * yU D L x i (n - (i + 1)) * _ = sumN _ i + _
    rw [sU_sum h x i (by omega), h.star (by omega), yU_YF h x (by omega) (n - (i + 1)) (by omega), show i + 1 + (n - (i + 1)) = n by omega]
    rfl
/-- The squared length of a sum of rows, by the data, is the form of the products. -/
theorem sU_form {b : List (List Int)} {n : Nat} {D : List Int} {L : List (List Int)} (h : DI b n D L) (x : List Int) : sU D L x n n = sumN (fun j => ((x.getD j 0 : Int) : Rat) * sumN (fun l => ((x.getD l 0 : Int) : Rat) * ((gU b j l : Int) : Rat)) n) n := by
  rw [sU_sum h x n (Nat.le_refl _), qf_all h.ok]; rfl
/-! ### sums of rows -/
/-- The sum of the first k rows, each so many times; m numbers. -/
def vU (b : List (List Int)) (x : List Int) (m : Nat) : Nat → List Int
  | 0 => List.replicate m 0
  | k + 1 => (List.range m).map fun c => (vU b x m k).getD c 0 + x.getD k 0 * (b.getD k []).getD c 0
theorem vU_len (b : List (List Int)) (x : List Int) (m : Nat) : ∀ k, (vU b x m k).length = m
  | 0 => by simp [vU]
  | k + 1 => by simp [vU]
theorem vU_at (b : List (List Int)) (x : List Int) (m : Nat) : ∀ k c, c < m → (((vU b x m k).getD c 0 : Int) : Rat) = sumN (fun j => ((x.getD j 0 : Int) : Rat) * (((b.getD j []).getD c 0 : Int) : Rat)) k
  | 0, c, hc => by
    show (((List.replicate m (0 : Int)).getD c 0 : Int) : Rat) = 0
    rw [List.getD_eq_getElem?_getD, List.getElem?_replicate]; split <;> rfl
  | k + 1, c, hc => by
    show ((((List.range m).map _).getD c 0 : Int) : Rat) = sumN _ k + _
    rw [rng_at hc, Rat.intCast_add, Rat.intCast_mul, vU_at b x m k c hc]
theorem dot_sum (xs ys : List Int) : ∀ n, ((dotU xs ys n : Int) : Rat) = sumN (fun c => ((xs.getD c 0 : Int) : Rat) * ((ys.getD c 0 : Int) : Rat)) n
  | 0 => rfl
  | n + 1 => by
    show ((dotU xs ys n + _ : Int) : Rat) = sumN _ n + _
    rw [Rat.intCast_add, Rat.intCast_mul, dot_sum xs ys n]
theorem sum_prod (f g : Nat → Rat) (m n : Nat) : sumN f m * sumN g n = sumN (fun i => f i * sumN g n) m := by
  rw [sum_congr (g := fun i => sumN g n * f i) (fun i _ => Rat.mul_comm _ _), sum_mul]; grind
theorem form_dot {b : List (List Int)} {x : List Int} {m n : Nat} (hm : ∀ j, j < n → (b.getD j []).length = m) : sumN (fun j => ((x.getD j 0 : Int) : Rat) * sumN (fun l => ((x.getD l 0 : Int) : Rat) * ((gU b j l : Int) : Rat)) n) n = ((dotU (vU b x m n) (vU b x m n) m : Int) : Rat) := by
  rw [dot_sum]
  rw [sum_congr (n := m) (g := fun c => sumN (fun j => sumN (fun l => (((x.getD j 0 : Int) : Rat) * (((b.getD j []).getD c 0 : Int) : Rat)) * (((x.getD l 0 : Int) : Rat) * (((b.getD l []).getD c 0 : Int) : Rat))) n) n) (fun c hc => by
    rw [vU_at b x m n c hc, sum_prod]
    exact sum_congr fun j _ => (sum_mul _ _ n).symm)]
  rw [← sum_swap]
  refine sum_congr fun j hj => ?_
  rw [← sum_swap, ← sum_mul]
  refine sum_congr fun l hl => ?_
  show _ * (_ * ((dotU (b.getD j []) (b.getD l []) (b.getD j []).length : Int) : Rat)) = _
  rw [hm j hj, dot_sum, ← sum_mul, ← sum_mul]
  exact sum_congr fun c _ => by grind
theorem norm_len {b : List (List Int)} {x : List Int} {m n : Nat} {D : List Int} {L : List (List Int)} (h : DI b n D L) (hm : ∀ j, j < n → (b.getD j []).length = m) : sU D L x n n = ((dotU (vU b x m n) (vU b x m n) m : Int) : Rat) := by rw [sU_form h, form_dot hm]
theorem DI.good {b : List (List Int)} {n : Nat} {D : List Int} {L : List (List Int)} (h : DI b n D L) (hn : 0 < n) : GoodP D L := by
  have hpos : ∀ k, k ≤ n → 0 < D.getD k 0 := fun k hk => by
    have := pb_pos h.ok k hk
    rw [← h.d k hk] at this
    exact Rat.intCast_pos.1 this
  refine ⟨by rw [h.lL]; exact hn, by rw [h.lD, h.lL], ?_, fun i hi => ?_⟩
  · have := h.d 0 (Nat.zero_le _)
    exact Rat.intCast_inj.1 (this.trans rfl)
  · rw [h.lL] at hi
    exact ⟨h.lr i hi, hpos (i + 1) (by omega)⟩
theorem bld_none {b : List (List Int)} {n : Nat} (h : bld b n = none) : ¬ Ok b n := fun hok => by
  obtain ⟨D, L, e⟩ := bld_of_ok hok
  rw [h] at e; cases e
end Go.Proofs.YtekghdfbhbhigaaGreat.V
/- The nearest point: the normal equations, and how far it is. -/
set_option linter.unusedVariables false
set_option maxRecDepth 100000
namespace Go.Proofs.YtekghdfbhbhigaaGreat.V
open Go.RowKit Mt Nml
/-- The coefficient of a row along a star, whichever. -/
def Wq (b : List (List Int)) (i l : Nat) : Rat := Mr (gR b) l i l / Mr (gR b) l l l
theorem gram_step {b : List (List Int)} {n : Nat} (h : Ok b n) (i m : Nat) : ∀ k, k ≤ n → gR b i m = sumN (fun l => Wq b i l * (Wq b m l * sR b l)) k + Mr (gR b) k i m
  | 0, _ => by show gR b i m = (0 : Rat) + gR b i m; grind
  | k + 1, hk => by
    have hm := ok_ne h (show k < n by omega)
    rw [gram_step h i m k (by omega)]
    show sumN _ k + Mr (gR b) k i m = sumN _ k + Wq b i k * (Wq b m k * sR b k) + (Mr (gR b) k i m + -(Mr (gR b) k i k / Mr (gR b) k k k) * Mr (gR b) k k m)
    rw [mr_symm (gR_symm b) k k m]
    unfold Wq sR
    generalize Mr (gR b) k k k = q at hm
    generalize Mr (gR b) k i k = x
    generalize Mr (gR b) k m k = y
    grind
theorem gram_W {b : List (List Int)} {n : Nat} (h : Ok b n) {i : Nat} (hi : i < n) (m : Nat) : gR b i m = sumN (fun l => Wq b i l * (Wq b m l * sR b l)) n := by
  rw [gram_step h i m n (Nat.le_refl _), mr_zero h n (Nat.le_refl _) i hi m]
  grind
/-- What is known of the coefficients: Y along the stars, C along the rows. -/
structure Near (b : List (List Int)) (n : Nat) (a Y C : Nat → Rat) : Prop where
  ok : Ok b n
  y : ∀ i, i < n → a i = sumN (fun l => Wq b i l * sR b l * Y l) n
  c : ∀ l, l < n → Y l = sumN (fun i => C i * Wq b i l) n
/-- The normal equations. -/
theorem Near.normal {b : List (List Int)} {n : Nat} {a Y C : Nat → Rat} (h : Near b n a Y C) {m : Nat} (hm : m < n) : sumN (fun i => C i * gR b i m) n = a m := by
  rw [sum_congr (g := fun i => sumN (fun l => C i * (Wq b i l * (Wq b m l * sR b l))) n) (fun i hi => by rw [gram_W h.ok hi m, sum_mul]), sum_swap, h.y m hm]
  refine sum_congr fun l hl => ?_
  rw [sum_congr (g := fun i => (Wq b m l * sR b l) * (C i * Wq b i l)) (fun i _ => by grind), sum_mul, ← h.c l hl]
/-! ### columns -/
abbrev tq (ts : List (Int × Int)) (k : Nat) : Rat := ((ts.getD k (0, 0)).1 : Rat) / ((ts.getD k (0, 0)).2 : Rat)
/-- The product of what is left and a row, term by term. -/
def nq (b : List (List Int)) (c : List Rat) (ts : List (Int × Int)) (n i : Nat) : Nat → Rat
  | 0 => 0
  | k + 1 => nq b c ts n i k + lq b c (tq ts k) k n * (((b.getD i []).getD k 0 : Int) : Rat)
theorem sum_rev (f : Nat → Rat) : ∀ n, sumN (fun j => f (n - (j + 1))) n = sumN f n
  | 0 => rfl
  | n + 1 => by
    have e := sum_split (fun j => f (n + 1 - (j + 1))) 1 n
    rw [Nat.add_comm 1 n] at e
    rw [e]
    show (0 : Rat) + f (n + 1 - (0 + 1)) + _ = sumN f n + f n
    rw [sum_congr (g := fun j => f (n - (j + 1))) (fun j hj => by congr 1; omega), sum_rev f n]
    show (0 : Rat) + f n + _ = _
    grind
end Go.Proofs.YtekghdfbhbhigaaGreat.V
/- A search tree: centres and parts as plain sums, and how large they are. -/
set_option linter.unusedVariables false
set_option maxRecDepth 100000
namespace Go.Proofs.YtekghdfbhbhigaaGreat.V
open Go.RowKit Mt Nml
/-- The target's coefficient of a row. -/
def aqT (ts : List (Int × Int)) (i : Nat) : Rat := if ts.length = 0 then 0 else tq ts i
/-- The centre of a suffix, after k of its numbers: i is the row, m the last row. -/
def ctT (D : List Int) (L : List (List Int)) (ts : List (Int × Int)) (s : List Int) (m i : Nat) : Nat → Rat
  | 0 => aqT ts i
  | k + 1 => ctT D L ts s m i k - (((s.getD k 0 : Int) : Rat) - aqT ts (m - k)) * muq D L (m - k) i
/-- The part of a suffix's first k numbers. -/
def ptT (D : List Int) (L : List (List Int)) (ts : List (Int × Int)) (s : List Int) (m : Nat) : Nat → Rat
  | 0 => 0
  | k + 1 => ptT D L ts s m k + (((s.getD k 0 : Int) : Rat) - ctT D L ts s m (m - k) k) * (((s.getD k 0 : Int) : Rat) - ctT D L ts s m (m - k) k) * stq D (m - k)
theorem ctT_ext {D : List Int} {L : List (List Int)} {ts : List (Int × Int)} {s s' : List Int} {m i : Nat} : ∀ {k : Nat}, (∀ j, j < k → s.getD j 0 = s'.getD j 0) → ctT D L ts s m i k = ctT D L ts s' m i k
  | 0, _ => rfl
  | k + 1, h => by
    show ctT D L ts s m i k - _ = ctT D L ts s' m i k - _
    rw [ctT_ext (k := k) fun j hj => h j (by omega), h k (by omega)]
theorem ptT_ext {D : List Int} {L : List (List Int)} {ts : List (Int × Int)} {s s' : List Int} {m : Nat} : ∀ {k : Nat}, (∀ j, j < k → s.getD j 0 = s'.getD j 0) → ptT D L ts s m k = ptT D L ts s' m k
  | 0, _ => rfl
  | k + 1, h => by
    show ptT D L ts s m k + _ = ptT D L ts s' m k + _
    rw [ptT_ext (k := k) fun j hj => h j (by omega), h k (by omega), ctT_ext (k := k) fun j hj => h j (by omega)]
/-! ### sizes -/
theorem QB.nd {q : Rat} {k : Nat} (h : QB q k) : 0 < ((q.den : Int)) ∧ ((q.num : Rat) / (((q.den : Int)) : Rat) = q) ∧ zl q.num ≤ k ∧ zl (q.den : Int) ≤ k := ⟨den_p' q, rat_nd q, h.1, h.2⟩
theorem QB.add2 {x y : Rat} {k l : Nat} (h : QB x k) (h' : QB y l) : QB (x + y) (k + l + 1) := QB.addv (QB.nd h).1 (QB.nd h').1 (QB.nd h).2.1 (QB.nd h').2.1 h.1 h.2 h'.1 h'.2
theorem QB.sub2 {x y : Rat} {k l : Nat} (h : QB x k) (h' : QB y l) : QB (x - y) (k + l + 1) := QB.subv (QB.nd h).1 (QB.nd h').1 (QB.nd h).2.1 (QB.nd h').2.1 h.1 h.2 h'.1 h'.2
theorem QB.mul2 {x y : Rat} {k l : Nat} (h : QB x k) (h' : QB y l) : QB (x * y) (k + l) := QB.mulv (QB.nd h).1 (QB.nd h').1 (QB.nd h).2.1 (QB.nd h').2.1 h.1 h.2 h'.1 h'.2
theorem QB.int {z : Int} {k : Nat} (h : zl z ≤ k) : QB (z : Rat) (k + 1) := by
  have := qb_div h zl_one (by decide : (1 : Int) ≠ 0)
  rw [show (z : Rat) / ((1 : Int) : Rat) = (z : Rat) from by rw [show ((1 : Int) : Rat) = 1 from rfl]; grind] at this
  exact QB.mono this (by omega)
theorem QB.frac {a b : Int} {k : Nat} (h : zl a ≤ k) (h' : zl b ≤ k) (hb : b ≠ 0) : QB ((a : Rat) / (b : Rat)) k := by
  have := qb_div h h' hb
  rwa [Nat.max_self] at this
/-- What is known of a tree: as many rows as m + 1, numbers of at most k limbs. -/
structure TrS (D : List Int) (L : List (List Int)) (ts : List (Int × Int)) (n k : Nat) : Prop where
  good : GoodP D L
  len : L.length = n
  twelve : n ≤ 12
  tl : ts.length = 0 ∨ ts.length = n
  tp : ∀ i, i < ts.length → 0 < (ts.getD i (0, 0)).2
  zt : ∀ i, i < ts.length → zl (ts.getD i (0, 0)).1 ≤ k ∧ zl (ts.getD i (0, 0)).2 ≤ k
  zD : ∀ j, zl (D.getD j 0) ≤ k
  zL : ∀ i j, zl ((L.getD j []).getD i 0) ≤ k
  hk : k ≤ 16777216
namespace TrS
variable {D : List Int} {L : List (List Int)} {ts : List (Int × Int)} {n k : Nat} (h : TrS D L ts n k)
include h
theorem pos : 0 < n := by have := h.good.1; have := h.len; omega
theorem dp {i : Nat} (hi : i ≤ n) : 0 < D.getD i 0 := h.good.pos (by rw [h.len]; exact hi)
theorem a {i : Nat} (hi : i < n) : QB (aqT ts i) (k + 2) := by
  unfold aqT
  split
  · exact QB.mono (QB.int (z := 0) (k := 0) (by rw [zl_zero]; exact Nat.le_refl _)) (by omega)
  · rename_i h0
    rcases h.tl with h1 | h1
    · exact absurd h1 h0
    · have := h.tp i (by omega)
      exact QB.mono (QB.frac (h.zt i (by omega)).1 (h.zt i (by omega)).2 (by omega)) (by omega)
theorem mu {i j : Nat} (hi : i ≤ n) (hj : j < i) : QB (muq D L i j) k := QB.frac (h.zL _ _) (h.zD _) (by have := h.dp (i := j + 1) (by omega); omega)
theorem st {i : Nat} (hi : i < n) : QB (stq D i) k := QB.frac (h.zD _) (h.zD _) (by have := h.dp (i := i) (by omega); omega)
theorem ct {s : List Int} (hs : ∀ j, zl (s.getD j 0) ≤ k) {m i : Nat} (hm : m + 1 = n) : ∀ {c : Nat}, i + c ≤ m → QB (ctT D L ts s m i c) (k + 2 + c * (3 * k + 6))
  | 0, hc => QB.mono (h.a (by omega)) (by omega)
  | c + 1, hc => by
    have h1 := ct hs (m := m) (i := i) hm (c := c) (by omega)
    have h2 := QB.mul2 (QB.sub2 (QB.int (hs c)) (h.a (i := m - c) (by omega))) (h.mu (i := m - c) (j := i) (by omega) (by omega))
    have h3 := QB.sub2 h1 h2
    refine QB.mono h3 ?_
    have e : (c + 1) * (3 * k + 6) = c * (3 * k + 6) + (3 * k + 6) := Nat.succ_mul _ _
    omega
/-- One size for all centres. -/
theorem ct' {s : List Int} (hs : ∀ j, zl (s.getD j 0) ≤ k) {m i c : Nat} (hm : m + 1 = n) (hc : i + c ≤ m) : QB (ctT D L ts s m i c) 600000000 := by
  have h1 := h.ct hs hm hc
  have h2 := h.hk
  have h3 := h.twelve
  have h4 : c * (3 * k + 6) ≤ 11 * 50331654 := Nat.mul_le_mul (by omega) (by omega)
  exact QB.mono h1 (by omega)
theorem pt {s : List Int} (hs : ∀ j, zl (s.getD j 0) ≤ k) {m : Nat} (hm : m + 1 = n) : ∀ {c : Nat}, c ≤ n → QB (ptT D L ts s m c) (1 + c * 1250331653)
  | 0, hc => QB.int (z := 0) (k := 0) (by rw [zl_zero]; exact Nat.le_refl _)
  | c + 1, hc => by
    have h1 := pt hs hm (c := c) (by omega)
    have h2 := QB.sub2 (QB.int (hs c)) (h.ct' hs (m := m) (i := m - c) (c := c) hm (by omega))
    have h3 := QB.add2 h1 (QB.mul2 (QB.mul2 h2 h2) (h.st (i := m - c) (by omega)))
    have h4 := h.hk
    refine QB.mono h3 ?_
    have e : (c + 1) * 1250331653 = c * 1250331653 + 1250331653 := Nat.succ_mul _ _
    omega
/-- One size for all parts. -/
theorem pt' {s : List Int} (hs : ∀ j, zl (s.getD j 0) ≤ k) {m c : Nat} (hm : m + 1 = n) (hc : c ≤ n) : QB (ptT D L ts s m c) 15100000000 := by
  have h3 := h.twelve
  have h4 : c * 1250331653 ≤ 12 * 1250331653 := Nat.mul_le_mul_right _ (by omega)
  exact QB.mono (h.pt hs hm hc) (by omega)
end TrS
/-! ### a leaf's part is a squared length -/
theorem ctT_sum (D : List Int) (L : List (List Int)) (ts : List (Int × Int)) (s : List Int) (m i : Nat) : ∀ k, ctT D L ts s m i k = aqT ts i - sumN (fun k => (((s.getD k 0 : Int) : Rat) - aqT ts (m - k)) * muq D L (m - k) i) k
  | 0 => by show aqT ts i = aqT ts i - (0 : Rat); grind
  | k + 1 => by show ctT D L ts s m i k - _ = aqT ts i - (sumN _ k + _); rw [ctT_sum D L ts s m i k]; grind
theorem ptT_sum (D : List Int) (L : List (List Int)) (ts : List (Int × Int)) (s : List Int) (m : Nat) : ∀ k, ptT D L ts s m k = sumN (fun k => (((s.getD k 0 : Int) : Rat) - ctT D L ts s m (m - k) k) * (((s.getD k 0 : Int) : Rat) - ctT D L ts s m (m - k) k) * stq D (m - k)) k
  | 0 => rfl
  | k + 1 => by show ptT D L ts s m k + _ = sumN _ k + _; rw [ptT_sum D L ts s m k]
theorem yU_sum (D : List Int) (L : List (List Int)) (x : List Int) (i : Nat) : ∀ t, yU D L x i t = ((x.getD i 0 : Int) : Rat) + sumN (fun t => ((x.getD (i + 1 + t) 0 : Int) : Rat) * muq D L (i + 1 + t) i) t
  | 0 => by show _ = _ + (0 : Rat); show ((x.getD i 0 : Int) : Rat) = _; grind
  | t + 1 => by
    show yU D L x i t + _ = _ + (sumN _ t + _)
    rw [yU_sum D L x i t, Rat.intCast_mul]
    unfold muq
    simp only [Rat.div_def]
    grind
theorem sU_sm (D : List Int) (L : List (List Int)) (x : List Int) (n : Nat) : ∀ i, sU D L x n i = sumN (fun i => yU D L x i (n - (i + 1)) * yU D L x i (n - (i + 1)) * stq D i) i
  | 0 => rfl
  | i + 1 => by show sU D L x n i + _ = sumN _ i + _; rw [sU_sm D L x n i]; rfl
/-- off: the suffix from its end, less the target. -/
theorem part_off {D : List Int} {L : List (List Int)} {ts : List (Int × Int)} {s off : List Int} {m : Nat} (ho : ∀ j, j ≤ m → ((s.getD (m - j) 0 : Int) : Rat) - aqT ts j = ((off.getD j 0 : Int) : Rat)) {k : Nat} (hk : k ≤ m) :
    ((s.getD k 0 : Int) : Rat) - ctT D L ts s m (m - k) k = yU D L off (m - k) k := by
  rw [ctT_sum, yU_sum, ← ho (m - k) (by omega), show m - (m - k) = k by omega]
  have e := sum_rev (fun t => ((off.getD (m - k + 1 + t) 0 : Int) : Rat) * muq D L (m - k + 1 + t) (m - k)) k
  rw [← e, sum_congr (g := fun j => ((off.getD (m - k + 1 + (k - (j + 1))) 0 : Int) : Rat) * muq D L (m - k + 1 + (k - (j + 1))) (m - k)) (fun j hj => by
    have h1 := ho (m - j) (by omega)
    rw [show m - (m - j) = j by omega] at h1
    rw [h1, show m - k + 1 + (k - (j + 1)) = m - j by omega])]
  grind
theorem part_sU {D : List Int} {L : List (List Int)} {ts : List (Int × Int)} {s off : List Int} {m : Nat} (ho : ∀ j, j ≤ m → ((s.getD (m - j) 0 : Int) : Rat) - aqT ts j = ((off.getD j 0 : Int) : Rat)) : ptT D L ts s m (m + 1) = sU D L off (m + 1) (m + 1) := by
  rw [ptT_sum, sU_sm, ← sum_rev (fun i => yU D L off i (m + 1 - (i + 1)) * yU D L off i (m + 1 - (i + 1)) * stq D i) (m + 1)]
  refine sum_congr fun k hk => ?_
  rw [part_off ho (by omega), show m + 1 - (k + 1) = m - k by omega, show m + 1 - (m - k + 1) = k by omega]
end Go.Proofs.YtekghdfbhbhigaaGreat.V
/- What a basis is; sums of rows. -/
set_option linter.unusedVariables false
set_option linter.unusedSimpArgs false
set_option maxRecDepth 100000
namespace Go.Proofs.YtekghdfbhbhigaaGreat.V
open Go.RowKit Mt Nml
theorem r05_check_err_t {b : List (List Int)} {k : Nat} {r : Int} (hk : k ≤ 1048576) (hrr : ∀ i, i < b.length → (b.getD i []).length ≤ 1048576) (hbl : b.length ≤ 1048576) (hR : ShR b true r) (hr : r ≠ 0) : Fn Tryz.prog 52 [T.l (cL (cZi k)) b, T.c (.bool true)] [] [] [] (T.tup [T.st [T.c (.slice none 0 0), T.c (.slice none 0 0)], T.c (.int .i64 r)]) := by
  refine fn_of Tryz.func52 rfl (by show 2 ≤ 25; decide) fun cx hcx => ?_
  refine tri_sub (sl 0 rfl (sl 1 rfl sn)) en ?_
  refine tri_seq ?_
  refine tri_reg mixed hcx ?_ _ _
  refine nw 10 zeR ?_
  refine asg rfl ?_
  refine ⟨by kernel_rfl, ?_⟩
  refine nx (sl 0 rfl (sl 1 rfl (sl 4 rfl sn))) (el 10 rfl en) ?_
  refine tri_seq ?_
  refine tri_reg mixed hcx ?_ _ _
  refine mv rfl ?_
  refine mv rfl ?_
  refine ca rfl (h := r05_shape_t hk hbl hrr hR) (hn := ?_)
  refine asg rfl ?_
  refine ⟨by kernel_rfl, ?_⟩
  refine nx (sl 0 rfl (sl 4 rfl (sl 6 rfl sn))) (el 10 rfl en) ?_
  refine tri_seq ?_
  refine tri_seq ?_
  refine tri_reg mixed hcx ?_ _ _
  refine mv rfl ?_
  refine cne rfl rfl (decide_eq_true hr) ?_
  refine ⟨by kernel_rfl, ?_⟩
  refine nx (sl 0 rfl (sl 4 rfl (sl 6 rfl (sl 13 rfl sn)))) (el 10 rfl en) ?_
  refine tri_true rfl rfl ?_
  refine tri_seq ?_
  refine tri_reg mixed hcx ?_ _ _
  refine bu stR rfl ?_
  refine mv rfl ?_
  refine st rfl rfl rfl tyR rfl ?_
  refine asg rfl ?_
  refine ⟨by kernel_rfl, ?_⟩
  refine nx (sl 4 rfl (sl 5 rfl sn)) (el 10 rfl en) ?_
  refine tri_ret ?_
  repeat (first | refine pn_thenr ?_ | refine pn_blkr ?_)
  exact ret2 hcx rfl (rv_cell (c' := cx) (n := 0) rfl rfl tyR rfl) (rv_tmp rfl) (.refl _) en

theorem r05_check_no_t {b : List (List Int)} {k m S K : Nat} (hno : ¬ Ok b b.length) (h0 : 0 < b.length) (hb : b.length ≤ 12) (hm : ∀ i, i < b.length → (b.getD i []).length = m) (hk : k ≤ 1048576) (hm12 : m ≤ 12) (hR : ShR b true 0) (hS : ∀ i j, i < b.length → j ≤ i → zl (dotU (b.getD i []) (b.getD j []) (b.getD i []).length) ≤ S) (h1S : 1 ≤ S) (hK1 : bd S 12 ≤ K) (hK2 : K ≤ 268435456) : Fn Tryz.prog 52 [T.l (cL (cZi k)) b, T.c (.bool true)] [] [] [] (T.tup [T.st [T.c (.slice none 0 0), T.c (.slice none 0 0)], T.c (.int .i64 50)]) := by
  refine fn_of Tryz.func52 rfl (by show 2 ≤ 25; decide) fun cx hcx => ?_
  refine tri_sub (sl 0 rfl (sl 1 rfl sn)) en ?_
  have hrr : ∀ i, i < b.length → (b.getD i []).length ≤ 1048576 := fun i hi => by rw [hm i hi]; omega
  have hmk : m * (k + k + 1) ≤ 17179869184 := Nat.le_trans (Nat.mul_le_mul hm12 (show k + k + 1 ≤ 2097153 by omega)) (by decide)
  have hQ : ∀ i, i < b.length → Ok b i → ∀ e j, e ≤ j → j ≤ i → QB (Mr (gR b) e i j) K := fun i hi ho e j h1 h2 => QB.mono (mr_QB hS h1S ho hi h1 h2) (Nat.le_trans (bd_mono (by omega)) hK1)
  have hM : ∀ i j, j < i → i < b.length → Ok b i → QB (mR b i j) K := fun i j hj hi ho => QB.mono (mR_QB hS ho hi hj) (Nat.le_trans (bd_mono (by omega)) hK1)
  refine tri_seq ?_
  refine tri_reg mixed hcx ?_ _ _
  refine nw 10 zeR ?_
  refine asg rfl ?_
  refine ⟨by kernel_rfl, ?_⟩
  refine nx (sl 0 rfl (sl 1 rfl (sl 4 rfl sn))) (el 10 rfl en) ?_
  refine tri_seq ?_
  refine tri_reg mixed hcx ?_ _ _
  refine mv rfl ?_
  refine mv rfl ?_
  refine ca rfl (h := r05_shape_t hk (by omega) hrr hR) (hn := ?_)
  refine asg rfl ?_
  refine ⟨by kernel_rfl, ?_⟩
  refine nx (sl 0 rfl (sl 4 rfl (sl 6 rfl sn))) (el 10 rfl en) ?_
  refine tri_seq ?_
  refine tri_seq ?_
  refine tri_reg mixed hcx ?_ _ _
  refine mv rfl ?_
  refine cne rfl rfl (decide_eq_false (by omega)) ?_
  refine ⟨by kernel_rfl, ?_⟩
  refine nx (sl 0 rfl (sl 4 rfl (sl 6 rfl (sl 13 rfl sn)))) (el 10 rfl en) ?_
  refine tri_false rfl rfl ?_
  refine tri_skip ?_
  refine nx (sl 0 rfl (sl 4 rfl sn)) (el 10 rfl en) ?_
  refine tri_seq ?_
  refine tri_reg mixed hcx ?_ _ _
  refine mv rfl ?_
  refine ca rfl (h := r05_Make_no hno (by omega) hm (by omega) hk hmk hQ hM hK2) (hn := ?_)
  refine mv rfl ?_
  refine ex rfl rfl ?_
  refine ex rfl rfl ?_
  refine nw 415 zeR ?_
  refine st rfl rfl rfl tyR rfl ?_
  refine asg rfl ?_
  refine ⟨by kernel_rfl, ?_⟩
  refine nx (sl 4 rfl (sl 7 rfl (sl 8 rfl sn))) (el 10 rfl (el 415 rfl en)) ?_
  refine tri_seq ?_
  refine tri_seq ?_
  refine tri_reg mixed hcx ?_ _ _
  refine mv rfl ?_
  refine nt rfl _ rfl ?_
  refine ⟨by kernel_rfl, ?_⟩
  refine nx (sl 4 rfl (sl 7 rfl (sl 22 rfl sn))) (el 10 rfl (el 415 rfl en)) ?_
  refine tri_true rfl rfl ?_
  refine tri_seq ?_
  refine tri_reg mixed hcx ?_ _ _
  refine bu stR rfl ?_
  refine st rfl rfl rfl tyR rfl ?_
  refine asg rfl ?_
  refine ⟨by kernel_rfl, ?_⟩
  refine nx (sl 4 rfl (sl 5 rfl sn)) (el 10 rfl (el 415 rfl en)) ?_
  refine tri_ret ?_
  repeat (first | refine pn_thenr ?_ | refine pn_blkr ?_)
  exact ret2 hcx rfl (rv_cell (c' := cx) (n := 0) rfl rfl tyR rfl) (rv_tmp rfl) (.refl _) en

theorem r05_check_ok_t {b : List (List Int)} {k m S K : Nat} (hok : Ok b b.length) (h0 : 0 < b.length) (hb : b.length ≤ 12) (hm : ∀ i, i < b.length → (b.getD i []).length = m) (hk : k ≤ 1048576) (hm12 : m ≤ 12) (hR : ShR b true 0) (hS : ∀ i j, i < b.length → j ≤ i → zl (dotU (b.getD i []) (b.getD j []) (b.getD i []).length) ≤ S) (h1S : 1 ≤ S) (hK1 : bd S 12 ≤ K) (hK2 : K ≤ 268435456) : Fn Tryz.prog 52 [T.l (cL (cZi k)) b, T.c (.bool true)] [] [] [] (T.tup [T.st [T.l (cL (cQ K)) (ML b b.length), T.l (cQ K) (SL b b.length)], T.c (.int .i64 0)]) := by
  refine fn_of Tryz.func52 rfl (by show 2 ≤ 25; decide) fun cx hcx => ?_
  refine tri_sub (sl 0 rfl (sl 1 rfl sn)) en ?_
  have hrr : ∀ i, i < b.length → (b.getD i []).length ≤ 1048576 := fun i hi => by rw [hm i hi]; omega
  have hmk : m * (k + k + 1) ≤ 17179869184 := Nat.le_trans (Nat.mul_le_mul hm12 (show k + k + 1 ≤ 2097153 by omega)) (by decide)
  have hQ : ∀ i, i < b.length → Ok b i → ∀ e j, e ≤ j → j ≤ i → QB (Mr (gR b) e i j) K := fun i hi ho e j h1 h2 => QB.mono (mr_QB hS h1S ho hi h1 h2) (Nat.le_trans (bd_mono (by omega)) hK1)
  have hM : ∀ i j, j < i → i < b.length → Ok b i → QB (mR b i j) K := fun i j hj hi ho => QB.mono (mR_QB hS ho hi hj) (Nat.le_trans (bd_mono (by omega)) hK1)
  refine tri_seq ?_
  refine tri_reg mixed hcx ?_ _ _
  refine nw 10 zeR ?_
  refine asg rfl ?_
  refine ⟨by kernel_rfl, ?_⟩
  refine nx (sl 0 rfl (sl 1 rfl (sl 4 rfl sn))) (el 10 rfl en) ?_
  refine tri_seq ?_
  refine tri_reg mixed hcx ?_ _ _
  refine mv rfl ?_
  refine mv rfl ?_
  refine ca rfl (h := r05_shape_t hk (by omega) hrr hR) (hn := ?_)
  refine asg rfl ?_
  refine ⟨by kernel_rfl, ?_⟩
  refine nx (sl 0 rfl (sl 4 rfl (sl 6 rfl sn))) (el 10 rfl en) ?_
  refine tri_seq ?_
  refine tri_seq ?_
  refine tri_reg mixed hcx ?_ _ _
  refine mv rfl ?_
  refine cne rfl rfl (decide_eq_false (by omega)) ?_
  refine ⟨by kernel_rfl, ?_⟩
  refine nx (sl 0 rfl (sl 4 rfl (sl 6 rfl (sl 13 rfl sn)))) (el 10 rfl en) ?_
  refine tri_false rfl rfl ?_
  refine tri_skip ?_
  refine nx (sl 0 rfl (sl 4 rfl sn)) (el 10 rfl en) ?_
  refine tri_seq ?_
  refine tri_reg mixed hcx ?_ _ _
  refine mv rfl ?_
  refine ca rfl (h := r05_Make hok (by omega) hm (by omega) hk hmk hQ hM hK2) (hn := ?_)
  refine mv rfl ?_
  refine ex rfl rfl ?_
  refine ex rfl rfl ?_
  refine nw 415 zeR ?_
  refine st rfl rfl rfl tyR rfl ?_
  refine asg rfl ?_
  refine ⟨by kernel_rfl, ?_⟩
  refine nx (sl 4 rfl (sl 7 rfl (sl 8 rfl sn))) (el 10 rfl (el 415 rfl en)) ?_
  refine tri_seq ?_
  refine tri_seq ?_
  refine tri_reg mixed hcx ?_ _ _
  refine mv rfl ?_
  refine nt rfl _ rfl ?_
  refine ⟨by kernel_rfl, ?_⟩
  refine nx (sl 4 rfl (sl 7 rfl (sl 22 rfl sn))) (el 10 rfl (el 415 rfl en)) ?_
  refine tri_false rfl rfl ?_
  refine tri_skip ?_
  refine nx (sl 4 rfl (sl 7 rfl sn)) (el 10 rfl (el 415 rfl en)) ?_
  refine tri_seq ?_
  refine tri_reg mixed hcx ?_ _ _
  refine ld rfl rfl tyR rfl ?_
  refine st rfl rfl rfl tyR rfl ?_
  refine asg rfl ?_
  refine ⟨by kernel_rfl, ?_⟩
  refine nx (sl 4 rfl (sl 5 rfl sn)) (el 10 rfl (el 415 rfl en)) ?_
  refine tri_ret ?_
  repeat (first | refine pn_thenr ?_ | refine pn_blkr ?_)
  exact ret2 hcx rfl (rv_cell (c' := cx) (n := 0) rfl rfl tyR rfl) (rv_tmp rfl) (.refl _) en

theorem r05_Valid_err {b : List (List Int)} {k : Nat} {r : Int} (hk : k ≤ 1048576) (hrr : ∀ i, i < b.length → (b.getD i []).length ≤ 1048576) (hbl : b.length ≤ 1048576) (hR : ShR b true r) (hr : r ≠ 0) : Fn Tryz.prog 11 [T.l (cL (cZi k)) b] [] [] [] (T.c (.int .i64 r)) := by
  refine fn_of Tryz.func11 rfl (by show 1 ≤ 11; decide) fun cx hcx => ?_
  refine tri_sub (sl 0 rfl sn) en ?_
  refine tri_seq ?_
  refine tri_reg mixed hcx ?_ _ _
  refine asg rfl ?_
  refine ⟨by kernel_rfl, ?_⟩
  refine nx (sl 0 rfl sn) en ?_
  refine tri_seq ?_
  refine tri_reg mixed hcx ?_ _ _
  refine mv rfl ?_
  refine ca rfl (h := r05_check_err_t hk hrr hbl hR hr) (hn := ?_)
  refine mv rfl ?_
  refine ex rfl rfl ?_
  refine ex rfl rfl ?_
  refine nw 115 zeR ?_
  refine st rfl rfl rfl tyR rfl ?_
  refine asg rfl ?_
  refine ⟨by kernel_rfl, ?_⟩
  refine nx (sl 4 rfl sn) (el 115 rfl en) ?_
  refine tri_seq ?_
  refine tri_reg mixed hcx ?_ _ _
  refine mv rfl ?_
  refine asg rfl ?_
  refine ⟨by kernel_rfl, ?_⟩
  refine nx (sl 2 rfl sn) (el 115 rfl en) ?_
  refine tri_ret ?_
  repeat (first | refine pn_thenr ?_ | refine pn_blkr ?_)
  exact ret1 hcx rfl (rv_tmp rfl) (.refl _) en

theorem r05_Valid_no {b : List (List Int)} {k m S K : Nat} (hno : ¬ Ok b b.length) (h0 : 0 < b.length) (hb : b.length ≤ 12) (hm : ∀ i, i < b.length → (b.getD i []).length = m) (hk : k ≤ 1048576) (hm12 : m ≤ 12) (hR : ShR b true 0) (hS : ∀ i j, i < b.length → j ≤ i → zl (dotU (b.getD i []) (b.getD j []) (b.getD i []).length) ≤ S) (h1S : 1 ≤ S) (hK1 : bd S 12 ≤ K) (hK2 : K ≤ 268435456) : Fn Tryz.prog 11 [T.l (cL (cZi k)) b] [] [] [] (T.c (.int .i64 50)) := by
  refine fn_of Tryz.func11 rfl (by show 1 ≤ 11; decide) fun cx hcx => ?_
  refine tri_sub (sl 0 rfl sn) en ?_
  refine tri_seq ?_
  refine tri_reg mixed hcx ?_ _ _
  refine asg rfl ?_
  refine ⟨by kernel_rfl, ?_⟩
  refine nx (sl 0 rfl sn) en ?_
  refine tri_seq ?_
  refine tri_reg mixed hcx ?_ _ _
  refine mv rfl ?_
  refine ca rfl (h := r05_check_no_t hno h0 hb hm hk hm12 hR hS h1S hK1 hK2) (hn := ?_)
  refine mv rfl ?_
  refine ex rfl rfl ?_
  refine ex rfl rfl ?_
  refine nw 115 zeR ?_
  refine st rfl rfl rfl tyR rfl ?_
  refine asg rfl ?_
  refine ⟨by kernel_rfl, ?_⟩
  refine nx (sl 4 rfl sn) (el 115 rfl en) ?_
  refine tri_seq ?_
  refine tri_reg mixed hcx ?_ _ _
  refine mv rfl ?_
  refine asg rfl ?_
  refine ⟨by kernel_rfl, ?_⟩
  refine nx (sl 2 rfl sn) (el 115 rfl en) ?_
  refine tri_ret ?_
  repeat (first | refine pn_thenr ?_ | refine pn_blkr ?_)
  exact ret1 hcx rfl (rv_tmp rfl) (.refl _) en

theorem r05_Valid_ok {b : List (List Int)} {k m S K : Nat} (hok : Ok b b.length) (h0 : 0 < b.length) (hb : b.length ≤ 12) (hm : ∀ i, i < b.length → (b.getD i []).length = m) (hk : k ≤ 1048576) (hm12 : m ≤ 12) (hR : ShR b true 0) (hS : ∀ i j, i < b.length → j ≤ i → zl (dotU (b.getD i []) (b.getD j []) (b.getD i []).length) ≤ S) (h1S : 1 ≤ S) (hK1 : bd S 12 ≤ K) (hK2 : K ≤ 268435456) : Fn Tryz.prog 11 [T.l (cL (cZi k)) b] [] [] [] (T.c (.int .i64 0)) := by
  refine fn_of Tryz.func11 rfl (by show 1 ≤ 11; decide) fun cx hcx => ?_
  refine tri_sub (sl 0 rfl sn) en ?_
  refine tri_seq ?_
  refine tri_reg mixed hcx ?_ _ _
  refine asg rfl ?_
  refine ⟨by kernel_rfl, ?_⟩
  refine nx (sl 0 rfl sn) en ?_
  refine tri_seq ?_
  refine tri_reg mixed hcx ?_ _ _
  refine mv rfl ?_
  refine ca rfl (h := r05_check_ok_t hok h0 hb hm hk hm12 hR hS h1S hK1 hK2) (hn := ?_)
  refine mv rfl ?_
  refine ex rfl rfl ?_
  refine ex rfl rfl ?_
  refine nw 115 zeR ?_
  refine st rfl rfl rfl tyR rfl ?_
  refine asg rfl ?_
  refine ⟨by kernel_rfl, ?_⟩
  refine nx (sl 4 rfl sn) (el 115 rfl en) ?_
  refine tri_seq ?_
  refine tri_reg mixed hcx ?_ _ _
  refine mv rfl ?_
  refine asg rfl ?_
  refine ⟨by kernel_rfl, ?_⟩
  refine nx (sl 2 rfl sn) (el 115 rfl en) ?_
  refine tri_ret ?_
  repeat (first | refine pn_thenr ?_ | refine pn_blkr ?_)
  exact ret1 hcx rfl (rv_tmp rfl) (.refl _) en

theorem tl_eq {l l' : List Int} {k k' : Nat} (h : l = l') (hk : k ≤ k') : (T.l (cZ k) l).le (T.l (cZ k') l') := by
  subst h; exact tl_le (fun z => z_mono hk) l
/-- A row and q times another one. -/
def grw (xs : List Int) (q : Int) (ys : List Int) (n : Nat) : List Int := (List.range n).map fun c => xs.getD c 0 + q * ys.getD c 0
theorem grw_succ {xs ys : List Int} {q : Int} {n : Nat} : grw xs q ys n ++ [xs.getD n 0 + q * ys.getD n 0] = grw xs q ys (n + 1) := by simp [grw, List.range_succ]
theorem grw_len {xs ys : List Int} {q : Int} {n : Nat} : (grw xs q ys n).length = n := by simp [grw]
def prU (a b : List (List Int)) (m n : Nat) : List (List Int) := (List.range n).map fun i => vU b (a.getD i []) m (a.getD i []).length
theorem prU_succ {a b : List (List Int)} {m n : Nat} : prU a b m n ++ [vU b (a.getD n []) m (a.getD n []).length] = prU a b m (n + 1) := by simp [prU, List.range_succ]
theorem prU_len {a b : List (List Int)} {m n : Nat} : (prU a b m n).length = n := by simp [prU]
theorem zrZ (k : Nat) (u : World) : ((cZ k).X (cZ k).dflt).rep B0 u (.agg #[.bool false, .slice none 0 0]) := zz0.trans (z_mono (Nat.zero_le k)) _ _ _ ⟨[.bool false, .slice none 0 0], rfl, cells_c (zs := [.bool false, .slice none 0 0]) rfl⟩

theorem r05_Grown {xs ys : List Int} {q : Int} {ka kx kb : Nat} (hl : xs.length ≤ ys.length) (hn : xs.length ≤ 1048576) (hka : ka ≤ 1099511627776) (hkx : kx ≤ 1099511627776) (hkb : kb ≤ 1099511627776) : Fn Tryz.prog 118 [T.l (cZi ka) xs, T.Zi q kx, T.l (cZi kb) ys] [] [] [] (T.l (cZ (ka + (kx + kb) + 1)) (grw xs q ys xs.length)) := by
  refine fn_of Tryz.func118 rfl (by show 3 ≤ 30; decide) fun cx hcx => ?_
  refine tri_sub (sl 0 rfl (sl 1 rfl (sl 2 rfl sn))) en ?_
  refine tri_seq ?_
  refine tri_reg mixed hcx ?_ _ _
  refine bx 10 rfl ?_
  refine asg rfl ?_
  refine ⟨by kernel_rfl, ?_⟩
  refine nx (sl 0 rfl (sl 2 rfl (sl 4 rfl sn))) (el 10 rfl en) ?_
  refine tri_seq ?_
  refine tri_reg mixed hcx ?_ _ _
  refine asg rfl ?_
  refine ⟨by kernel_rfl, ?_⟩
  refine nx (sl 0 rfl (sl 2 rfl (sl 4 rfl (sl 7 rfl sn)))) (el 10 rfl en) ?_
  refine tri_seq ?_
  refine tri_seq ?_
  refine tri_nil 7 9 32 (cZ (ka + (kx + kb) + 1)) rfl (by rw [hcx]; kernel_rfl) ?_
  refine tri_reg mixed hcx ?_ _ _
  refine asg rfl ?_
  refine ⟨by kernel_rfl, ?_⟩
  refine nx (sl 0 rfl (sl 2 rfl (sl 4 rfl (sl 7 rfl (sl 8 rfl sn))))) (el 10 rfl (el 9 rfl en)) ?_
  refine tri_block ?_
  refine tri_loop (ι := Nat) (fun i => [(0, T.l (cZi ka) xs), (2, T.l (cZi kb) ys), (4, T.p 10 0), (7, T.o 9), (8, T.c (.int .i64 (i : Int)))]) (fun i => [(10, some (Ent.box 32 [T.Zi q kx])), (9, some (Ent.row (cZ (ka + (kx + kb) + 1)) 32 (grw xs q ys i)))]) (fun i => xs.length - i) (fun i => (i ≤ xs.length)) 0 (Nat.zero_le _) (sl 0 rfl (sl 2 rfl (sl 4 rfl (sl 7 rfl (sl 8 rfl sn))))) (el 10 rfl (el 9 rfl en)) ?_
  rintro i hi
  refine tri_sub (sl 0 rfl (sl 2 rfl (sl 4 rfl (sl 7 rfl (sl 8 rfl sn))))) (el 10 rfl (el 9 rfl en)) ?_
  have hgl : (grw xs q ys i).length = i := grw_len
  refine tri_seq ?_
  refine tri_seq ?_
  refine tri_reg mixed hcx ?_ _ _
  refine mv rfl ?_
  refine mv rfl ?_
  refine ln slZs rfl ?_
  refine clt rfl rfl rfl ?_
  refine ⟨by kernel_rfl, ?_⟩
  refine nx (sl 0 rfl (sl 2 rfl (sl 4 rfl (sl 7 rfl (sl 8 rfl (sl 12 rfl sn)))))) (el 10 rfl (el 9 rfl en)) ?_
  refine tri_if rfl (fun hc => ?_) (fun hc => ?_)
  · refine tri_skip ?_
    refine nx (sl 0 rfl (sl 2 rfl (sl 4 rfl (sl 7 rfl (sl 8 rfl sn))))) (el 10 rfl (el 9 rfl en)) ?_
    refine tri_seq ?_
    refine tri_block ?_
    refine tri_reg mixed hcx ?_ _ _
    refine mv rfl ?_
    refine mv rfl ?_
    refine mv rfl ?_
    refine ix rfl rfl slZs ⟨rfl, by omega⟩ ?_
    refine lf rfl tyZ ?_
    refine ld rfl rfl tyZ rfl ?_
    refine mv rfl ?_
    refine mv rfl ?_
    refine ix rfl rfl slZs ⟨rfl, by omega⟩ ?_
    refine lf rfl tyZ ?_
    refine ca rfl (h := r02_Mul (by omega) (by omega)) (hn := ?_)
    refine ca rfl (h := r02_Add (by omega) (by omega)) (hn := ?_)
    refine bs (c := cZ (ka + (kx + kb) + 1)) (xs := [xs.getD i 0 + q * ys.getD i 0]) slZs rfl ⟨.refl _, trivial⟩ ?_
    refine ap 523 rfl rfl rfl slZs (by simp only [List.length_cons, List.length_nil]; omega) (by decide) ?_
    refine asg rfl ?_
    refine ⟨by kernel_rfl, ?_⟩
    refine pn_blk ?_
    refine nx (sl 0 rfl (sl 2 rfl (sl 4 rfl (sl 7 rfl (sl 8 rfl sn))))) (el 10 rfl (el 523 rfl en)) ?_
    refine tri_reg mixed hcx ?_ _ _
    refine mv rfl ?_
    refine ad (((i + 1 : Nat) : Int)) rfl rfl rfl (by omega) ?_
    refine asg rfl ?_
    refine ⟨by kernel_rfl, ?_⟩
    refine pn_sub (sl 0 rfl (sl 2 rfl (sl 4 rfl (sl 7 rfl (sl 8 rfl sn))))) (el 10 rfl (el 523 rfl en)) ?_
    refine pn_ren 7 9 523 rfl rfl (by rw [hcx]; kernel_rfl) ?_
    exact pn_back (i + 1) (by first | omega | (dsimp only; omega)) (by omega) (sl 0 rfl (sl 2 rfl (sl 4 rfl (sl 7 rfl (sl 8 rfl sn))))) (el 10 rfl (ew 9 rfl (.of (by rw [grw_succ])) en))
  · refine tri_exit ?_
    repeat (first | refine pn_then ?_ | refine pn_oth (by decide) ?_)
    refine pn_ex ?_
    obtain rfl : i = xs.length := by omega
    refine nx (sl 7 rfl sn) (el 10 rfl (el 9 rfl en)) ?_
    refine tri_seq ?_
    refine tri_fz 9 rfl ?_
    refine tri_rd 7 9 rfl rfl ?_
    refine tri_reg mixed hcx ?_ _ _
    refine mv rfl ?_
    refine asg rfl ?_
    refine ⟨by kernel_rfl, ?_⟩
    refine nx (sl 6 rfl sn) (el 10 rfl en) ?_
    refine tri_ret ?_
    repeat (first | refine pn_thenr ?_ | refine pn_blkr ?_)
    exact ret1 hcx rfl (rv_tmp rfl) (.refl _) en

theorem r05_Product {a b : List (List Int)} {kx kb m nb : Nat} (h0 : 0 < b.length) (hal : a.length ≤ 1048576) (hbl : b.length ≤ 1048576) (hm : ∀ i, i < b.length → (b.getD i []).length = m) (hmm : m ≤ 1048576) (ha : ∀ i, i < a.length → (a.getD i []).length ≤ nb ∧ (a.getD i []).length ≤ b.length) (hkx : kx ≤ 1048576) (hkb : kb ≤ 1048576) (hnb : nb ≤ 1024) : Fn Tryz.prog 61 [T.l (cL (cZi kx)) a, T.l (cL (cZi kb)) b] [] [] [] (T.l (cL (cZ (nb * (kx + kb + 1)))) (prU a b m a.length)) := by
  refine fn_of Tryz.func61 rfl (by show 2 ≤ 47; decide) fun cx hcx => ?_
  refine tri_sub (sl 0 rfl (sl 1 rfl sn)) en ?_
  have hm0 : (b.getD 0 (cL (cZi kb)).dflt).length = m := hm 0 h0
  refine tri_seq ?_
  refine tri_reg mixed hcx ?_ _ _
  refine asg rfl ?_
  refine ⟨by kernel_rfl, ?_⟩
  refine nx (sl 0 rfl (sl 1 rfl sn)) en ?_
  refine tri_seq ?_
  refine tri_reg mixed hcx ?_ _ _
  refine asg rfl ?_
  refine ⟨by kernel_rfl, ?_⟩
  refine nx (sl 0 rfl (sl 1 rfl (sl 5 rfl sn))) en ?_
  refine tri_seq ?_
  refine tri_seq ?_
  refine tri_nil 5 9 23 (cL (cZ (nb * (kx + kb + 1)))) rfl (by rw [hcx]; kernel_rfl) ?_
  refine tri_reg mixed hcx ?_ _ _
  refine asg rfl ?_
  refine ⟨by kernel_rfl, ?_⟩
  refine nx (sl 0 rfl (sl 1 rfl (sl 5 rfl (sl 6 rfl sn)))) (el 9 rfl en) ?_
  refine tri_block ?_
  refine tri_loop (ι := Nat) (fun i => [(0, T.l (cL (cZi kx)) a), (1, T.l (cL (cZi kb)) b), (5, T.o 9), (6, T.c (.int .i64 (i : Int)))]) (fun i => [(9, some (Ent.row (cL (cZ (nb * (kx + kb + 1)))) 23 (prU a b m i)))]) (fun i => a.length - i) (fun i => (i ≤ a.length)) 0 (Nat.zero_le _) (sl 0 rfl (sl 1 rfl (sl 5 rfl (sl 6 rfl sn)))) (el 9 rfl en) ?_
  rintro i hi
  refine tri_sub (sl 0 rfl (sl 1 rfl (sl 5 rfl (sl 6 rfl sn)))) (el 9 rfl en) ?_
  have hpl : (prU a b m i).length = i := prU_len
  refine tri_seq ?_
  refine tri_seq ?_
  refine tri_reg mixed hcx ?_ _ _
  refine mv rfl ?_
  refine mv rfl ?_
  refine ln slZss rfl ?_
  refine clt rfl rfl rfl ?_
  refine ⟨by kernel_rfl, ?_⟩
  refine nx (sl 0 rfl (sl 1 rfl (sl 5 rfl (sl 6 rfl (sl 12 rfl sn))))) (el 9 rfl en) ?_
  refine tri_if rfl (fun hc => ?_) (fun hc => ?_)
  · have hai : (a.getD i (cL (cZi kx)).dflt).length ≤ nb ∧ (a.getD i (cL (cZi kx)).dflt).length ≤ b.length := ha i (by omega)
    refine tri_skip ?_
    refine nx (sl 0 rfl (sl 1 rfl (sl 5 rfl (sl 6 rfl sn)))) (el 9 rfl en) ?_
    refine tri_seq ?_
    refine tri_block ?_
    refine tri_seq ?_
    refine tri_reg mixed hcx ?_ _ _
    refine mv rfl ?_
    refine ix rfl rfl slZss ⟨(rfl : _ = ((0 : Nat) : Int)), by omega⟩ ?_
    refine lf rfl tyZs ?_
    refine ln slZs rfl ?_
    refine mkz (c := (cZ 0)) (n := m) 514 slZs rfl (by omega) (fun u => ⟨zvZ, zrZ 0 u⟩) (by decide) ?_
    refine asg rfl ?_
    refine ⟨by kernel_rfl, ?_⟩
    refine nx (sl 0 rfl (sl 1 rfl (sl 5 rfl (sl 6 rfl (sl 7 rfl sn))))) (el 9 rfl (el 514 rfl en)) ?_
    refine tri_seq ?_
    refine tri_seq ?_
    refine tri_fz 514 rfl ?_
    refine tri_rd 7 514 rfl rfl ?_
    refine tri_reg mixed hcx ?_ _ _
    refine asg rfl ?_
    refine ⟨by kernel_rfl, ?_⟩
    refine nx (sl 0 rfl (sl 1 rfl (sl 5 rfl (sl 6 rfl (sl 7 rfl (sl 8 rfl sn)))))) (el 9 rfl en) ?_
    refine tri_block ?_
    refine tri_loop (ι := Nat) (fun e => [(0, T.l (cL (cZi kx)) a), (1, T.l (cL (cZi kb)) b), (5, T.o 9), (6, T.c (.int .i64 (i : Int))), (7, T.l (cZ (e * (kx + kb + 1))) (vU b (a.getD i []) m e)), (8, T.c (.int .i64 (e : Int)))]) (fun e => [(9, some (Ent.row (cL (cZ (nb * (kx + kb + 1)))) 23 (prU a b m i)))]) (fun e => (a.getD i (cL (cZi kx)).dflt).length - e) (fun e => (e ≤ (a.getD i (cL (cZi kx)).dflt).length)) 0 (Nat.zero_le _) (sl 0 rfl (sl 1 rfl (sl 5 rfl (sl 6 rfl (sw 7 rfl (tl_eq rfl (Nat.zero_le _)) (sl 8 rfl sn)))))) (el 9 rfl en) ?_
    rintro e he
    refine tri_sub (sl 0 rfl (sl 1 rfl (sl 5 rfl (sl 6 rfl (sl 7 rfl (sl 8 rfl sn)))))) (el 9 rfl en) ?_
    have hvl : (vU b (a.getD i []) m e).length = m := vU_len _ _ _ _
    have hek : e * (kx + kb + 1) ≤ 1024 * 2097153 := Nat.mul_le_mul (by omega) (by omega)
    refine tri_seq ?_
    refine tri_seq ?_
    refine tri_reg mixed hcx ?_ _ _
    refine mv rfl ?_
    refine mv rfl ?_
    refine mv rfl ?_
    refine ix rfl rfl slZss ⟨rfl, by omega⟩ ?_
    refine lf rfl tyZs ?_
    refine ln slZs rfl ?_
    refine clt rfl rfl rfl ?_
    refine ⟨by kernel_rfl, ?_⟩
    refine nx (sl 0 rfl (sl 1 rfl (sl 5 rfl (sl 6 rfl (sl 7 rfl (sl 8 rfl (sl 26 rfl sn))))))) (el 9 rfl en) ?_
    refine tri_if rfl (fun hd => ?_) (fun hd => ?_)
    · have hbe : (b.getD e (cL (cZi kb)).dflt).length = m := hm e (by omega)
      refine tri_skip ?_
      refine nx (sl 0 rfl (sl 1 rfl (sl 5 rfl (sl 6 rfl (sl 7 rfl (sl 8 rfl sn)))))) (el 9 rfl en) ?_
      refine tri_seq ?_
      refine tri_block ?_
      refine tri_reg mixed hcx ?_ _ _
      refine mv rfl ?_
      refine mv rfl ?_
      refine mv rfl ?_
      refine ix rfl rfl slZss ⟨rfl, by omega⟩ ?_
      refine lf rfl tyZs ?_
      refine mv rfl ?_
      refine ix rfl rfl slZs ⟨rfl, by omega⟩ ?_
      refine lf rfl tyZ ?_
      refine mv rfl ?_
      refine mv rfl ?_
      refine ix rfl rfl slZss ⟨rfl, by omega⟩ ?_
      refine lf rfl tyZs ?_
      refine ca rfl (h := r05_Grown (ka := e * (kx + kb + 1)) (kx := kx) (kb := kb) (by omega) (by omega) (by omega) (by omega) (by omega)) (hn := ?_)
      refine asg rfl ?_
      refine ⟨by kernel_rfl, ?_⟩
      refine pn_blk ?_
      refine nx (sl 0 rfl (sl 1 rfl (sl 5 rfl (sl 6 rfl (sl 7 rfl (sl 8 rfl sn)))))) (el 9 rfl en) ?_
      refine tri_reg mixed hcx ?_ _ _
      refine mv rfl ?_
      refine ad (((e + 1 : Nat) : Int)) rfl rfl rfl (by omega) ?_
      refine asg rfl ?_
      refine ⟨by kernel_rfl, ?_⟩
      exact pn_back (e + 1) (by first | omega | (dsimp only; omega)) (by omega) (sl 0 rfl (sl 1 rfl (sl 5 rfl (sl 6 rfl (sw 7 rfl (tl_eq (by rw [vU_len]; rfl) (by rw [Nat.succ_mul]; omega)) (sl 8 rfl sn)))))) (el 9 rfl en)
    · refine tri_exit ?_
      repeat (first | refine pn_then ?_ | refine pn_oth (by decide) ?_)
      refine pn_ex ?_
      have hee : e = (a.getD i (cL (cZi kx)).dflt).length := by omega
      refine nx (sl 0 rfl (sl 1 rfl (sl 5 rfl (sl 6 rfl (sl 7 rfl sn))))) (el 9 rfl en) ?_
      refine tri_reg mixed hcx ?_ _ _
      refine mv rfl ?_
      refine mv rfl ?_
      refine bs (c := cL (cZ (nb * (kx + kb + 1)))) (xs := [vU b (a.getD i []) m (a.getD i []).length]) slZss rfl ⟨tl_eq (by rw [hee]; rfl) (Nat.mul_le_mul_right _ (by omega)), trivial⟩ ?_
      refine ap 1013 rfl rfl rfl slZss (by simp only [List.length_cons, List.length_nil]; omega) (by decide) ?_
      refine asg rfl ?_
      refine ⟨by kernel_rfl, ?_⟩
      refine pn_blk ?_
      refine nx (sl 0 rfl (sl 1 rfl (sl 5 rfl (sl 6 rfl sn)))) (el 1013 rfl en) ?_
      refine tri_reg mixed hcx ?_ _ _
      refine mv rfl ?_
      refine ad (((i + 1 : Nat) : Int)) rfl rfl rfl (by omega) ?_
      refine asg rfl ?_
      refine ⟨by kernel_rfl, ?_⟩
      refine pn_sub (sl 0 rfl (sl 1 rfl (sl 5 rfl (sl 6 rfl sn)))) (el 1013 rfl en) ?_
      refine pn_ren 5 9 1013 rfl rfl (by rw [hcx]; kernel_rfl) ?_
      exact pn_back (i + 1) (by first | omega | (dsimp only; omega)) (by omega) (sl 0 rfl (sl 1 rfl (sl 5 rfl (sl 6 rfl sn)))) (ew 9 rfl (.of (by rw [prU_succ])) en)
  · refine tri_exit ?_
    repeat (first | refine pn_then ?_ | refine pn_oth (by decide) ?_)
    refine pn_ex ?_
    obtain rfl : i = a.length := by omega
    refine nx (sl 5 rfl sn) (el 9 rfl en) ?_
    refine tri_seq ?_
    refine tri_fz 9 rfl ?_
    refine tri_rd 5 9 rfl rfl ?_
    refine tri_reg mixed hcx ?_ _ _
    refine mv rfl ?_
    refine asg rfl ?_
    refine ⟨by kernel_rfl, ?_⟩
    refine nx (sl 4 rfl sn) en ?_
    refine tri_ret ?_
    repeat (first | refine pn_thenr ?_ | refine pn_blkr ?_)
    exact ret1 hcx rfl (rv_tmp rfl) (.refl _) en
end Go.Proofs.YtekghdfbhbhigaaGreat.V
/- The law of the lengths. -/
set_option linter.unusedVariables false
set_option linter.unusedSimpArgs false
set_option maxRecDepth 100000
namespace Go.Proofs.YtekghdfbhbhigaaGreat.V
open Go.RowKit Mt Nml
theorem zl_bits {z : Int} (h : nbits z.natAbs ≤ 256) : zl z ≤ 8 := by
  unfold zl
  refine lim_le ?_
  have h1 := lt_nbits z.natAbs
  have h2 : 2 ^ nbits z.natAbs ≤ 2 ^ 256 := Nat.pow_le_pow_right (by omega) h
  have h3 : B 8 = ((2 ^ 256 : Nat) : Int) := by decide
  rw [h3]
  exact Int.ofNat_lt.2 (Nat.lt_of_lt_of_le h1 h2)
theorem ent_bits {b : List (List Int)} (h : matB b b.length ≤ 256) (i j : Nat) : zl ((b.getD i []).getD j 0) ≤ 8 := by
  by_cases hi : i < b.length
  · by_cases hj : j < (b.getD i []).length
    · exact zl_bits (Nat.le_trans (matB_at hi hj) h)
    · rw [List.getD_eq_getElem?_getD (l := b.getD i []), List.getElem?_eq_none (by omega)]
      show zl 0 ≤ 8
      rw [zl_zero]; omega
  · rw [List.getD_eq_getElem?_getD (l := b), List.getElem?_eq_none (by omega)]
    show zl (([] : List Int).getD j 0) ≤ 8
    rw [show ([] : List Int).getD j 0 = 0 from by simp, zl_zero]; omega
theorem val_S {b : List (List Int)} (h : matB b b.length ≤ 256) (hr : ∀ i, i < b.length → (b.getD i []).length ≤ 12) : ∀ i j, i < b.length → j ≤ i → zl (dotU (b.getD i []) (b.getD j []) (b.getD i []).length) ≤ 204 := fun i j hi hj =>
  Nat.le_trans (zl_dotU (ent_bits h i) (ent_bits h j) _) (Nat.le_trans (Nat.mul_le_mul_right _ (hr i hi)) (by decide))
theorem shr_zero {b : List (List Int)} {q : Bool} (h : ShR b q 0) : ¬ BigB b q ∧ b.length ≠ 0 ∧ ¬ BadB b := by
  have h1 : ¬ BigB b q := fun k => by have := h.big k; omega
  have h2 : b.length ≠ 0 := fun k => by have := h.nil h1 k; omega
  exact ⟨h1, h2, fun k => by have := h.bad h1 h2 k; omega⟩
/-- Rows that may be a basis, but for dependence. -/
theorem shr_basis {b : List (List Int)} (h : ShR b true 0) : 0 < b.length ∧ b.length ≤ 12 ∧ (∀ i, i < b.length → (b.getD i []).length = (b.getD 0 []).length) ∧ (b.getD 0 []).length ≤ 12 ∧ matB b b.length ≤ 256 := by
  obtain ⟨h1, h2, h3⟩ := shr_zero h
  refine ⟨by omega, Nat.not_lt.1 fun k => h1 (.inl k), fun i hi => Decidable.not_not.1 fun e => h3 ⟨i, hi, e⟩, Nat.not_lt.1 fun k => h1 (.inr (.inr ⟨0, by omega, k⟩)), Nat.not_lt.1 fun k => h1 (.inr (.inl ⟨rfl, k⟩))⟩
theorem li_mono {x : List Int} {k k' : Nat} (h : k ≤ k') : (T.l (cZi k) x).le (T.l (cZi k') x) := tl_le (fun z => zi_mono h) x

end Go.Proofs.YtekghdfbhbhigaaGreat.V
/- A filter over data and a target: norms. -/
set_option linter.unusedVariables false
set_option linter.unusedSimpArgs false
set_option maxRecDepth 100000
namespace Go.Proofs.YtekghdfbhbhigaaGreat.V
open Go.RowKit Mt Nml
theorem take_snoc {α : Type} {l : List α} {i : Nat} {d : α} (h : i < l.length) : l.take i ++ [l.getD i d] = l.take (i + 1) := by
  rw [List.getD_eq_getElem?_getD, List.getElem?_eq_getElem h, Option.getD_some, List.take_append_getElem h]
/-- -1, 0, 1: below, the same, above. -/
def cq (x y : Rat) : Int := if x < y then -1 else if y < x then 1 else 0
theorem sgnc_q {a b c d : Int} {x y : Rat} (hb : 0 < b) (hd : 0 < d) (e : (a : Rat) / (b : Rat) = x) (e2 : (c : Rat) / (d : Rat) = y) : sgnc (a * d) (c * b) = cq x y := by
  have hbr : (0 : Rat) < (b : Rat) := Rat.intCast_pos.2 hb
  have hdr : (0 : Rat) < (d : Rat) := Rat.intCast_pos.2 hd
  have h1 : x < y ↔ a * d < c * b := by
    rw [← e, ← e2, Rat.div_lt_iff hbr, Rat.div_def, Rat.mul_assoc, Rat.mul_comm ((d : Rat)⁻¹), ← Rat.mul_assoc, ← Rat.div_def, Rat.lt_div_iff hdr, ← Rat.intCast_mul, ← Rat.intCast_mul, Rat.intCast_lt_intCast]
  have h2 : y < x ↔ c * b < a * d := by
    rw [← e, ← e2, Rat.div_lt_iff hdr, Rat.div_def, Rat.mul_assoc, Rat.mul_comm ((b : Rat)⁻¹), ← Rat.mul_assoc, ← Rat.div_def, Rat.lt_div_iff hbr, ← Rat.intCast_mul, ← Rat.intCast_mul, Rat.intCast_lt_intCast]
  unfold cq sgnc
  simp only [h1, h2]
theorem rv_Cmp {x y : Rat} {k l : Nat} (hk : k ≤ 17179869184) (hl : l ≤ 17179869184) : Fn Tryz.prog 120 [T.V x k, T.V y l] [] [] [] (T.tup [T.c (.int .i64 (cq x y)), T.c (.int .i64 0)]) := fn_v [] fun p p1 p2 p3 p4 => fn_v [T.Qi p.1 p.2 k] (Bs := []) fun q q1 q2 q3 q4 => fn_out (rat_CmpG p1 q1 hk hl) (tup_le ⟨ci (sgnc_q p1 q1 p2 q2), .refl _, trivial⟩)

end Go.Proofs.YtekghdfbhbhigaaGreat.V
