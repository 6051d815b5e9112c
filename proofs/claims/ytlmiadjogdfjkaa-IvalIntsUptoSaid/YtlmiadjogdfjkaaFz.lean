/- Whole numbers as floats; one times a float; a whole number turned into a float, as a step. -/
import Derived.Test.YtlmiadjogdfjkaaKI
import Derived.Test.YtlmiadjogdfjkaaFm
set_option linter.unusedVariables false
set_option maxRecDepth 100000
set_option exponentiation.threshold 4000
namespace Go.Proofs.Ytlmiadjogdfjkaa.V
open Go.RowKit Mt Nml
/-- The word of q (53 digits) times two to the E - 1 units. -/
def wd (E q : Nat) : Nat := (E - 1) * 4503599627370496 + q
theorem mag_wd {E q : Nat} (hE : 1 ≤ E) (h1 : 4503599627370496 ≤ q) (h2 : q < 9007199254740992) : Fl.mag (wd E q) = q * 2 ^ (E - 1) := by
  unfold wd Fl.mag
  rw [if_neg (by omega), show ((E - 1) * 4503599627370496 + q) % 4503599627370496 = q - 4503599627370496 by omega, show ((E - 1) * 4503599627370496 + q) / 4503599627370496 = E by omega, show 4503599627370496 + (q - 4503599627370496) = q by omega]
theorem mag_inj {r s : Nat} (h : Fl.mag r = Fl.mag s) : r = s := by
  rcases Nat.lt_trichotomy r s with h1 | h1 | h1
  · have := Fl.mag_lt h1; omega
  · exact h1
  · have := Fl.mag_lt h1; omega
theorem word_f {r : Nat} : Ieee.double.word false r = r := by unfold Ieee.Format.word; simp
open Ieee in
theorem f64_of {q : Nat} (h1 : 4503599627370496 ≤ q) (h2 : q < 9007199254740992) : FloatKind.f64.nearest (q : Int) = wd 1075 q := by
  have e : FloatKind.f64.nearest (q : Int) = double.nearest false q 0 := by
    show double.nearest (decide ((q : Int) < 0)) ((q : Int).natAbs) 0 = _
    rw [decide_eq_false (by omega), Int.natAbs_natCast]
  rw [e]
  obtain ⟨U, k1, _, _, k2⟩ := Fl.near_bd false (m := q) (by omega) 0
  have k3 := k2 h2 (by omega)
  have k4 : U = wd 1075 q := mag_inj (by rw [k3, mag_wd (by omega) h1 h2]; rfl)
  have k5 : wd 1075 q < Fl.INF := by unfold wd Fl.INF; omega
  rw [k1, word_f, k4, Nat.min_eq_left (Nat.le_of_lt k5)]
open Ieee in
theorem read_wd {E q : Nat} (hE : 1 ≤ E) (hE2 : E ≤ 2046) (h1 : 4503599627370496 ≤ q) (h2 : q < 9007199254740992) : double.read (wd E q) = .number false q (-1074 + ((E - 1 : Nat) : Int)) := by
  have hr : Fl.rung (wd E q) = wd E q := by unfold Fl.rung wd; omega
  have hs : Fl.sgn (wd E q) = false := by
    unfold Fl.sgn wd
    rw [show ((E - 1) * 4503599627370496 + q) / 9223372036854775808 = 0 by omega]; rfl
  unfold Format.read
  rw [Fl.d_sw, Fl.d_bin, Fl.d_inf, Fl.d_least]
  show (if Fl.rung (wd E q) < 4503599627370496 then Datum.number (Fl.sgn (wd E q)) (Fl.rung (wd E q)) (-1074) else if Fl.rung (wd E q) < 9218868437227405312 then .number (Fl.sgn (wd E q)) (4503599627370496 + Fl.rung (wd E q) % 4503599627370496) (-1074 + (Fl.rung (wd E q) / 4503599627370496 - 1 : Nat)) else _) = _
  rw [hr, hs]
  unfold wd
  rw [if_neg (by omega), if_pos (by omega), show ((E - 1) * 4503599627370496 + q) % 4503599627370496 = q - 4503599627370496 by omega, show ((E - 1) * 4503599627370496 + q) / 4503599627370496 = E by omega, show 4503599627370496 + (q - 4503599627370496) = q by omega]
theorem big_log {m q : Nat} (hm : m = q * 4503599627370496) (h1 : 4503599627370496 ≤ q) (h2 : q < 9007199254740992) (n0 : m ≠ 0) : m.log2 = 104 := by
  have a := (Nat.le_log2 n0 (k := 104)).2 (by rw [hm, show (2 : Nat) ^ 104 = 4503599627370496 * 4503599627370496 by decide]; omega)
  have b := (Nat.log2_lt n0 (k := 105)).2 (by rw [hm, show (2 : Nat) ^ 105 = 9007199254740992 * 4503599627370496 by decide]; omega)
  omega
open Ieee in
theorem near_last {m : Nat} {e : Int} (n0 : m ≠ 0) {L : Nat} (hL' : L = m.log2) {last : Int} (hlast : last = max (e + (L : Int) - 52) (-1074)) : double.nearest false m e = double.word false (min ((last + 1074).toNat * 4503599627370496 + Toward.even.cut false (m <<< (e - last).toNat) (last - e).toNat) Fl.INF) := by
  unfold Format.nearest
  rw [if_neg n0, Fl.d_least, Fl.d_bin, Fl.d_inf, hlast, hL']
  rfl
open Ieee in
theorem big_cut {m q : Nat} (n0 : m ≠ 0) (hm : m = q * 4503599627370496) : Toward.even.cut false m 52 = q := by
  have c := Fl.cut_even false (m := m) (drop := 52) n0
  rw [show (2 : Nat) ^ 52 = 4503599627370496 by decide] at c
  generalize Toward.even.cut false m 52 = z at c
  omega
theorem wd_min {E q : Nat} (hE2 : E ≤ 2046) (h2 : q < 9007199254740992) : min ((E - 1) * 4503599627370496 + q) Fl.INF = wd E q := Nat.min_eq_left (by unfold Fl.INF; omega)
open Ieee in
theorem near_big {E q m : Nat} (hE : 1 ≤ E) (hE2 : E ≤ 2046) (h1 : 4503599627370496 ≤ q) (h2 : q < 9007199254740992) (hm : m = q * 4503599627370496) (e : Int) (he : e = -52 + (-1074 + ((E - 1 : Nat) : Int))) : double.nearest false m e = wd E q := by
  have n0 : m ≠ 0 := by omega
  have hL := big_log hm h1 h2 n0
  have c2 := big_cut n0 hm
  obtain ⟨last, hlast⟩ : ∃ last : Int, last = max (e + (m.log2 : Int) - 52) (-1074) := ⟨_, rfl⟩
  have hn := near_last n0 rfl hlast
  rw [hL] at hlast
  have e1 : (last + 1074).toNat = E - 1 := by omega
  have e2 : (e - last).toNat = 0 := by omega
  have e3 : (last - e).toNat = 52 := by omega
  rw [hn, e1, e2, e3, Nat.shiftLeft_zero, c2, word_f]
  exact wd_min hE2 h2
open Ieee in
/-- One times a word. -/
theorem one_mul {E q : Nat} (hE : 1 ≤ E) (hE2 : E ≤ 2046) (h1 : 4503599627370496 ≤ q) (h2 : q < 9007199254740992) : FloatKind.f64.format.mul 4607182418800017408 (wd E q) = some (wd E q) := by
  have r1 : double.read 4607182418800017408 = .number false 4503599627370496 (-52) := by
    have := read_wd (E := 1023) (q := 4503599627370496) (by omega) (by omega) (by omega) (by omega)
    rwa [show wd 1023 4503599627370496 = 4607182418800017408 from rfl, show (-1074 + ((1023 - 1 : Nat) : Int)) = -52 by omega] at this
  show ((double.read 4607182418800017408).product (double.read (wd E q))).map double.write = _
  rw [r1, read_wd hE hE2 h1 h2]
  show some (double.nearest (false ^^ false) (4503599627370496 * q) (-52 + (-1074 + ((E - 1 : Nat) : Int)))) = _
  exact congrArg some (near_big hE hE2 h1 h2 (Nat.mul_comm _ _) _ rfl)
theorem wd_lt {E q : Nat} (hE : E ≤ 2046) (h2 : q < 9007199254740992) : wd E q < 9218868437227405312 := by unfold wd; omega
theorem wd_nn {E q : Nat} (hE : E ≤ 2046) (h2 : q < 9007199254740992) : Fl.isN (wd E q) = false := by
  have := wd_lt hE h2
  unfold Fl.isN Fl.rung Fl.INF
  exact decide_eq_false (by omega)
theorem wd_fo {E q : Nat} (hE : E ≤ 2046) (h2 : q < 9007199254740992) : fo (wd E q) = some (wd E q) := fo_s (wd_nn hE h2)
theorem wd_key {E q : Nat} (hE : E ≤ 2046) (h2 : q < 9007199254740992) : Fl.key (wd E q) = ((wd E q : Nat) : Int) := by
  have := wd_lt hE h2
  rw [Fl.key_of (by omega), if_neg (by omega)]
theorem one_mul_o {E q : Nat} (hE : 1 ≤ E) (hE2 : E ≤ 2046) (h1 : 4503599627370496 ≤ q) (h2 : q < 9007199254740992) : oMul (fo 4607182418800017408) (fo (wd E q)) = some (wd E q) := by
  exact (ar_o mul_ok _ _).symm.trans (one_mul hE hE2 h1 h2)
section
variable {P : Program} {ops : Array Oper} {fin : List OpS → List (Nat × T) → List (Nat × Option Ent) → Prop} {r : List Oper} {H : List OpS} {g : List (Nat × T)} {E : List (Nat × Option Ent)}
variable {t : Option Nat} {ty : TypeId} {ps : String} {af : Array Edge} {gd : Option (Nat × Bool)} {x : Operand}
theorem run_convert_f {src dst : TypeId} {k1 : IntKind} {a : Int} {w : World} (h1 : (P.underlying src).isSome = true) (h2 : P.underlying dst = some (.float .f64)) : (convert src dst (.int k1 a)).run P w = .ok (.float .f64 (FloatKind.f64.nearest a)) w := by
  obtain ⟨d, hd⟩ := Option.isSome_iff_exists.1 h1
  simp [convert, run_underlying hd, run_underlying h2, Conv.intToFloat]
def Cvf (P : Program) (src dst : TypeId) : Prop := (P.underlying src).isSome = true ∧ P.underlying dst = some (.float .f64)
theorem cvf {src dst : TypeId} {k1 : IntKind} {a : Int} (b : Nat) (hX : envl g x = some (T.c (.int k1 a))) (hc : Cvf P src dst) (hz : FloatKind.f64.nearest a = b) (hn : J P ops fin r (OpS.p (T.c (.float .f64 b)) :: H) (putg t (T.c (.float .f64 b)) g) E) (hg : GuardIs ops g ⟨t, .convert src dst x, ty, ps, af, gd⟩ true := by exact gd0) : J P ops fin (⟨t, .convert src dst x, ty, ps, af, gd⟩ :: r) H g E :=
  j_val hg (ok_pure fun ρ β u w F hs he hH => ⟨.float .f64 b, by
    have h1 : ρ x = .int k1 a := he x (by simp [Op.operands]) _ hX
    simp only [execOp, h1, Sem.run_bind, run_convert_f hc.1 hc.2, Result.andThen_ok, Sem.run_pure]
    rw [hz], rfl⟩) hn
theorem cvfU : Cvf Try.prog 48 22 := ⟨by kernel_rfl, by kernel_rfl⟩
end
end Go.Proofs.Ytlmiadjogdfjkaa.V
