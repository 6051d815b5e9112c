/- Floats: the next one, infinities, the same. -/
import Derived.Test.YtlmiadjogdfjkaaKF
import Derived.Test.YtlmiadjogdfjkaaVF
set_option linter.unusedVariables false
set_option linter.unusedSimpArgs false
set_option maxRecDepth 100000
namespace Go.Proofs.Ytlmiadjogdfjkaa.V
open Go.RowKit Mt Nml
section
variable {P : Program} {ops : Array Oper} {fin : List OpS → List (Nat × T) → List (Nat × Option Ent) → Prop} {r : List Oper} {H : List OpS} {g : List (Nat × T)} {E : List (Nat × Option Ent)} {o : Oper}
variable {t : Option Nat} {ty : TypeId} {ps : String} {af : Array Edge} {gd : Option (Nat × Bool)} {x y : Operand} {X Y : T}
theorem ban {t1 t2 : TypeId} {kk k2 : IntKind} {a d : Int} (z : Int) (hX : envl g x = some (T.c (.int kk a))) (hY : envl g y = some (T.c (.int k2 d))) (hz : bits .and kk a d = z) (hn : J P ops fin r (OpS.p (T.c (.int kk z)) :: H) (putg t (T.c (.int kk z)) g) E) (hg : GuardIs ops g ⟨t, .binOp .and t1 x y t2, ty, ps, af, gd⟩ true := by exact gd0) (hkk : kk = k2 := by rfl) : J P ops fin (⟨t, .binOp .and t1 x y t2, ty, ps, af, gd⟩ :: r) H g E :=
  bop hX hY (fun ρ w h1 h2 => by
    subst hkk
    rw [← hz]
    simp [execOp, h1, h2, eqGuard, binOp, Op.intBits, bits]) hn hg
theorem bnt {t1 t2 : TypeId} {kk k2 : IntKind} {a d : Int} (z : Int) (hX : envl g x = some (T.c (.int kk a))) (hY : envl g y = some (T.c (.int k2 d))) (hz : bits .andNot kk a d = z) (hn : J P ops fin r (OpS.p (T.c (.int kk z)) :: H) (putg t (T.c (.int kk z)) g) E) (hg : GuardIs ops g ⟨t, .binOp .andNot t1 x y t2, ty, ps, af, gd⟩ true := by exact gd0) (hkk : kk = k2 := by rfl) : J P ops fin (⟨t, .binOp .andNot t1 x y t2, ty, ps, af, gd⟩ :: r) H g E :=
  bop hX hY (fun ρ w h1 h2 => by
    subst hkk
    rw [← hz]
    simp [execOp, h1, h2, eqGuard, binOp, Op.intBits, bits]) hn hg
end
theorem and_mask (n : Nat) {b : Nat} (hb : b < 18446744073709551616) (hn : 2 ^ n ≤ 18446744073709551616) {m : Int} (hm : m = ((2 ^ n - 1 : Nat) : Int)) : bits .and .u64 (b : Int) m = ((b % 2 ^ n : Nat) : Int) := by
  subst hm
  have := Nat.two_pow_pos n
  rw [u64_and_nat b _ hb (by omega), Nat.and_two_pow_sub_one_eq_mod]
theorem not_top {b : Nat} (hb : b < 18446744073709551616) : bits .andNot .u64 (b : Int) 9223372036854775808 = ((b % 9223372036854775808 : Nat) : Int) := by
  rw [show (9223372036854775808 : Int) = ((9223372036854775808 : Nat) : Int) from rfl, u64_andNot_nat b _ hb (by decide)]
  exact congrArg _ (Nat.and_two_pow_sub_one_eq_mod b 63)
theorem or_i64 {a : Nat} (h : a < 4503599627370496) : bits .or .i64 (a : Int) 4503599627370496 = ((a + 4503599627370496 : Nat) : Int) := by
  have h1 := or_u64 52 (x := 4503599627370496) (y := (a : Int)) (by decide) (by decide) (by decide) (by omega) (by omega) (by omega)
  rw [or_u64_swap (by decide) (by decide) (by omega) (by omega)] at h1
  have e : ∀ x y : Int, bits .or .i64 x y = IntKind.i64.wrap ((BitVec.ofInt 64 x ||| BitVec.ofInt 64 y).toNat : Int) := fun _ _ => rfl
  have e2 : ∀ x y : Int, bits .or .u64 x y = ((BitVec.ofInt 64 x ||| BitVec.ofInt 64 y).toNat : Int) := fun x y => by
    show IntKind.u64.wrap ((BitVec.ofInt 64 x ||| BitVec.ofInt 64 y).toNat : Int) = _
    rw [IntKind.wrap_u64]
    have := (BitVec.ofInt 64 x ||| BitVec.ofInt 64 y).isLt
    omega
  rw [e, ← e2, h1, rgK_wrap (kk := .i64) rfl (by omega)]
  omega
/-- The parts of a word. -/
def fe (b : Nat) : Nat := b / 4503599627370496 % 2048
def fm (b : Nat) : Nat := b % 4503599627370496
def fex (b : Nat) : Nat := if fe b = 0 then 1 else fe b
def fmt (b : Nat) : Nat := if fe b = 0 then fm b else fm b + 4503599627370496
def fz (b : Nat) : Int := if b < 9223372036854775808 then (fmt b : Int) else -(fmt b : Int)
/-- What a word says that is no NaN and no infinity. -/
def fq (b : Nat) : Rat := if 1075 ≤ fex b then ((fz b * ((2 ^ (fex b - 1075) : Nat) : Int) : Int) : Rat) else ((fz b : Int) : Rat) / (((2 ^ (1075 - fex b) : Nat) : Int) : Rat)
def oFin : Option Nat → Bool
  | some b => decide (Fl.rung b ≠ 9218868437227405312)
  | none => false
def oq : Option Nat → Rat
  | some b => if Fl.rung b = 9218868437227405312 then 0 else fq b
  | none => 0
theorem nan_iff {b : Nat} : Fl.isN b = true ↔ 9218868437227405312 < Fl.rung b := by unfold Fl.isN Fl.INF; simp
theorem fo_cases {b : Nat} (hb : b < 18446744073709551616) : (Fl.isN b = true ∧ fo b = none) ∨ (Fl.isN b = false ∧ fo b = some b ∧ Fl.rung b ≤ 9218868437227405312) := by
  cases h : Fl.isN b
  · exact .inr ⟨rfl, fo_s h, by have := mt nan_iff.2 (by rw [h]; decide); omega⟩
  · exact .inl ⟨rfl, fo_n h⟩
theorem up_n {b : Nat} (h : Fl.isN b = true) : oUp (fo b) = fo b := by rw [fo_n h]; rfl
theorem key_ng {b : Nat} (hb : b < 18446744073709551616) : Fl.key (Fl.ng b) = -Fl.key b := by
  rw [Fl.key_of (Fl.ng_lt hb), Fl.key_of hb, ng_eq hb]
  split <;> split <;> omega

theorem abs_out {b : Nat} (hb : b < 18446744073709551616) : (T.c (.float .f64 ((b % 9223372036854775808 : Nat) : Int).toNat)).le (T.F ((fo b).map Fl.rung)) := fun β u v k => ⟨b % 9223372036854775808, ⟨by omega, by
  have e : Fl.isN (b % 9223372036854775808) = Fl.isN b := by unfold Fl.isN Fl.rung; rw [Nat.mod_mod]
  unfold fo
  rw [e]
  cases Fl.isN b <;> rfl⟩, by rw [Int.toNat_natCast] at k; exact k⟩

theorem c_Abs {o : Option Nat} : Fn Try.prog 63 [T.F o] [] [] [] (T.F (o.map Fl.rung)) := by
  refine fn_of Try.func63 rfl (by show 1 ≤ 7; decide) fun cx hcx => ?_
  refine tri_sub (sl 0 rfl sn) en ?_
  refine tri_ex 0 rfl fun b ⟨hb, hf⟩ => ?_
  subst hf
  have ib : BLt b := ⟨hb⟩
  refine tri_seq ?_
  refine tri_reg mixed hcx ?_ _ _
  refine asg rfl ?_
  refine ⟨by kernel_rfl, ?_⟩
  refine nx (sl 0 rfl sn) en ?_
  refine tri_seq ?_
  refine tri_reg mixed hcx ?_ _ _
  refine mv rfl ?_
  refine xt rfl (run_f64bits _) ?_
  refine bnt _ rfl rfl (not_top hb) ?_
  refine xt rfl (run_f64from _) ?_
  refine asg rfl ?_
  refine ⟨by kernel_rfl, ?_⟩
  refine nx (sl 2 rfl sn) en ?_
  refine tri_ret ?_
  repeat (first | refine pn_thenr ?_ | refine pn_blkr ?_)
  exact ret1 hcx rfl (rv_tmp rfl) (abs_out hb) en

def oInf (s : Int) (o : Option Nat) : Bool := match o with
  | some b => decide (s ≥ 0 ∧ b = 9218868437227405312 ∨ s ≤ 0 ∧ b = 18442240474082181120)
  | none => false
theorem top_fo {b : Nat} (hb : b < 18446744073709551616) : oLt (fo 9218868437227405311) (fo b) = oInf 1 (fo b) := by
  rw [← fo_gt, Fl.ord_top hb]
  rcases fo_cases hb with ⟨h, e⟩ | ⟨h, e, h2⟩
  · rw [e]
    refine decide_eq_false fun h0 => ?_
    subst h0
    revert h; decide
  · rw [e]
    refine decide_eq_decide.2 ?_
    omega
theorem top_o {o : Option Nat} (h : ∃ b, b < 18446744073709551616 ∧ fo b = o) : oLt (fo 9218868437227405311) o = oInf 1 o := by obtain ⟨b, hb, rfl⟩ := h; exact top_fo hb
theorem inf_abs {b : Nat} (hb : b < 18446744073709551616) : oInf 1 ((fo b).map Fl.rung) = oInf 0 (fo b) := by
  rcases fo_cases hb with ⟨h, e⟩ | ⟨h, e, h2⟩
  · rw [e]; rfl
  · rw [e]
    refine decide_eq_decide.2 ?_
    rw [Fl.rung_of hb]
    split <;> omega
theorem inf_neg {b : Nat} (hb : b < 18446744073709551616) : oInf 1 (ong (fo b)) = oInf (-1) (fo b) := by
  rcases fo_cases hb with ⟨h, e⟩ | ⟨h, e, h2⟩
  · rw [e]; rfl
  · rw [e]
    refine decide_eq_decide.2 ?_
    rw [ng_eq hb]
    split <;> omega
theorem fo_abs {b : Nat} (hb : b < 18446744073709551616) : ∃ c, c < 18446744073709551616 ∧ fo c = (fo b).map Fl.rung := ⟨Fl.rung b, by have := Fl.rung_le b; omega, by
  have e : Fl.isN (Fl.rung b) = Fl.isN b := by unfold Fl.isN Fl.rung; rw [Nat.mod_mod]
  unfold fo
  rw [e]
  cases Fl.isN b <;> rfl⟩

theorem c_IsInf0 {o : Option Nat} : Fn Try.prog 38 [T.F o, T.c (.int .i64 0)] [] [] [] (T.c (.bool (oInf 0 o))) := by
  refine fn_of Try.func38 rfl (by show 2 ≤ 15; decide) fun cx hcx => ?_
  refine tri_sub (sl 0 rfl (sl 1 rfl sn)) en ?_
  refine tri_ex 0 rfl fun b ⟨hb, hf⟩ => ?_
  subst hf
  have ib : BLt b := ⟨hb⟩
  refine tri_seq ?_
  refine tri_reg mixed hcx ?_ _ _
  refine asg rfl ?_
  refine ⟨by kernel_rfl, ?_⟩
  refine nx (sl 0 rfl (sl 1 rfl sn)) en ?_
  refine tri_seq ?_
  refine tri_seq ?_
  refine tri_reg mixed hcx ?_ _ _
  refine mv rfl ?_
  refine ceq rfl rfl (decide_eq_true (by omega)) ?_
  refine ⟨by kernel_rfl, ?_⟩
  refine nx (sl 0 rfl (sl 1 rfl (sl 6 rfl sn))) en ?_
  refine tri_true rfl rfl ?_
  refine tri_reg mixed hcx ?_ _ _
  refine mv rfl ?_
  refine caf rfl (h := c_Abs) (hn := ?_)
  refine asg rfl ?_
  refine ⟨by kernel_rfl, ?_⟩
  refine nx (sl 0 rfl sn) en ?_
  refine tri_seq ?_
  refine tri_reg mixed hcx ?_ _ _
  refine mv rfl ?_
  refine fgt rfl rfl (show _ = oInf 0 (fo b) from by rw [top_o (fo_abs hb), inf_abs hb]) ?_
  refine asg rfl ?_
  refine ⟨by kernel_rfl, ?_⟩
  refine nx (sl 4 rfl sn) en ?_
  refine tri_ret ?_
  repeat (first | refine pn_thenr ?_ | refine pn_blkr ?_)
  exact ret1 hcx rfl (rv_tmp rfl) (.refl _) en

theorem c_IsInf1 {o : Option Nat} : Fn Try.prog 38 [T.F o, T.c (.int .i64 1)] [] [] [] (T.c (.bool (oInf 1 o))) := by
  refine fn_of Try.func38 rfl (by show 2 ≤ 15; decide) fun cx hcx => ?_
  refine tri_sub (sl 0 rfl (sl 1 rfl sn)) en ?_
  refine tri_ex 0 rfl fun b ⟨hb, hf⟩ => ?_
  subst hf
  have ib : BLt b := ⟨hb⟩
  refine tri_seq ?_
  refine tri_reg mixed hcx ?_ _ _
  refine asg rfl ?_
  refine ⟨by kernel_rfl, ?_⟩
  refine nx (sl 0 rfl (sl 1 rfl sn)) en ?_
  refine tri_seq ?_
  refine tri_seq ?_
  refine tri_reg mixed hcx ?_ _ _
  refine mv rfl ?_
  refine ceq rfl rfl (decide_eq_false (by omega)) ?_
  refine ⟨by kernel_rfl, ?_⟩
  refine nx (sl 0 rfl (sl 1 rfl (sl 6 rfl sn))) en ?_
  refine tri_false rfl rfl ?_
  refine tri_seq ?_
  refine tri_reg mixed hcx ?_ _ _
  refine mv rfl ?_
  refine clt rfl rfl (decide_eq_false (by omega)) ?_
  refine ⟨by kernel_rfl, ?_⟩
  refine nx (sl 0 rfl (sl 10 rfl sn)) en ?_
  refine tri_false rfl rfl ?_
  refine tri_skip ?_
  refine nx (sl 0 rfl sn) en ?_
  refine tri_seq ?_
  refine tri_reg mixed hcx ?_ _ _
  refine mv rfl ?_
  refine fgt rfl rfl (show _ = oInf 1 (fo b) from top_fo hb) ?_
  refine asg rfl ?_
  refine ⟨by kernel_rfl, ?_⟩
  refine nx (sl 4 rfl sn) en ?_
  refine tri_ret ?_
  repeat (first | refine pn_thenr ?_ | refine pn_blkr ?_)
  exact ret1 hcx rfl (rv_tmp rfl) (.refl _) en

theorem c_IsInf2 {o : Option Nat} : Fn Try.prog 38 [T.F o, T.c (.int .i64 (-1))] [] [] [] (T.c (.bool (oInf (-1) o))) := by
  refine fn_of Try.func38 rfl (by show 2 ≤ 15; decide) fun cx hcx => ?_
  refine tri_sub (sl 0 rfl (sl 1 rfl sn)) en ?_
  refine tri_ex 0 rfl fun b ⟨hb, hf⟩ => ?_
  subst hf
  have ib : BLt b := ⟨hb⟩
  refine tri_seq ?_
  refine tri_reg mixed hcx ?_ _ _
  refine asg rfl ?_
  refine ⟨by kernel_rfl, ?_⟩
  refine nx (sl 0 rfl (sl 1 rfl sn)) en ?_
  refine tri_seq ?_
  refine tri_seq ?_
  refine tri_reg mixed hcx ?_ _ _
  refine mv rfl ?_
  refine ceq rfl rfl (decide_eq_false (by omega)) ?_
  refine ⟨by kernel_rfl, ?_⟩
  refine nx (sl 0 rfl (sl 1 rfl (sl 6 rfl sn))) en ?_
  refine tri_false rfl rfl ?_
  refine tri_seq ?_
  refine tri_reg mixed hcx ?_ _ _
  refine mv rfl ?_
  refine clt rfl rfl (decide_eq_true (by omega)) ?_
  refine ⟨by kernel_rfl, ?_⟩
  refine nx (sl 0 rfl (sl 10 rfl sn)) en ?_
  refine tri_true rfl rfl ?_
  refine tri_reg mixed hcx ?_ _ _
  refine mv rfl ?_
  refine fng rfl ?_
  refine asg rfl ?_
  refine ⟨by kernel_rfl, ?_⟩
  refine nx (sl 0 rfl sn) en ?_
  refine tri_seq ?_
  refine tri_reg mixed hcx ?_ _ _
  refine mv rfl ?_
  refine fgt rfl rfl (show _ = oInf (-1) (fo b) from by rw [← fo_ng hb, top_fo (Fl.ng_lt hb), fo_ng hb, inf_neg hb]) ?_
  refine asg rfl ?_
  refine ⟨by kernel_rfl, ?_⟩
  refine nx (sl 4 rfl sn) en ?_
  refine tri_ret ?_
  repeat (first | refine pn_thenr ?_ | refine pn_blkr ?_)
  exact ret1 hcx rfl (rv_tmp rfl) (.refl _) en

theorem up_out {z : Int} {b : Nat} (h : fo z.toNat = oUp (fo b)) (h2 : z.toNat < 18446744073709551616) : (T.c (.float .f64 z.toNat)).le (T.F (oUp (fo b))) := fun β u v k => ⟨z.toNat, ⟨h2, h⟩, k⟩
theorem same_out {b : Nat} (hb : b < 18446744073709551616) (h : oUp (fo b) = fo b) : (T.c (.float .f64 b)).le (T.F (oUp (fo b))) := fun β u v k => ⟨b, ⟨hb, h.symm⟩, k⟩
theorem up_cases {b : Nat} (hb : b < 18446744073709551616) : Fl.isN b = true ∨ (Fl.isN b = false ∧ b = 9218868437227405312) ∨ (Fl.isN b = false ∧ b ≠ 9218868437227405312 ∧ (b = 0 ∨ b = 9223372036854775808)) ∨
    (Fl.isN b = false ∧ b ≠ 9218868437227405312 ∧ ¬ (b = 0 ∨ b = 9223372036854775808) ∧ 9223372036854775808 ≤ b) ∨ (Fl.isN b = false ∧ b ≠ 9218868437227405312 ∧ ¬ (b = 0 ∨ b = 9223372036854775808) ∧ b < 9223372036854775808) := by
  cases h : Fl.isN b
  · by_cases h1 : b = 9218868437227405312
    · exact .inr (.inl ⟨rfl, h1⟩)
    by_cases h2 : b = 0 ∨ b = 9223372036854775808
    · exact .inr (.inr (.inl ⟨rfl, h1, h2⟩))
    by_cases h3 : 9223372036854775808 ≤ b
    · exact .inr (.inr (.inr (.inl ⟨rfl, h1, h2, h3⟩)))
    · exact .inr (.inr (.inr (.inr ⟨rfl, h1, h2, by omega⟩)))
  · exact .inl rfl
theorem ne_self {b : Nat} : (!oEq (fo b) (fo b)) = Fl.isN b := by
  rw [oEq_self]; unfold fo; cases Fl.isN b <;> rfl
theorem up_z {b : Nat} (hn : Fl.isN b = false) (h1 : b ≠ 9218868437227405312) (h : b = 0 ∨ b = 9223372036854775808) : oUp (fo b) = some 1 := by
  rw [fo_s hn]
  show some (Fl.up b) = _
  unfold Fl.up
  rw [if_neg (by rw [hn]; simp [h1]), if_pos h]
theorem up_m {b : Nat} (hn : Fl.isN b = false) (h1 : b ≠ 9218868437227405312) (h : ¬ (b = 0 ∨ b = 9223372036854775808)) : oUp (fo b) = some (if b < 9223372036854775808 then b + 1 else b - 1) := by
  rw [fo_s hn]
  show some (Fl.up b) = _
  unfold Fl.up
  rw [if_neg (by rw [hn]; simp [h1]), if_neg h]
theorem up_num {b : Nat} (hb : b < 18446744073709551616) (hn : Fl.isN b = false) (h1 : b ≠ 9218868437227405312) (h : ¬ (b = 0 ∨ b = 9223372036854775808)) : Fl.isN (if b < 9223372036854775808 then b + 1 else b - 1) = false := by
  rw [Fl.isN_of hb] at hn
  have hn := of_decide_eq_false hn
  rw [Fl.isN_of (by split <;> omega)]
  refine decide_eq_false ?_
  split <;> omega
theorem inf1_f {b : Nat} (hn : Fl.isN b = false) (h1 : b ≠ 9218868437227405312) : oInf 1 (fo b) = false := by
  rw [fo_s hn]; exact decide_eq_false (by omega)
theorem eq0 {b : Nat} (hb : b < 18446744073709551616) : oEq (fo b) (fo 0) = decide (b = 0 ∨ b = 9223372036854775808) := by rw [← fo_eq, Fl.ord_0 hb]
theorem lt0 {b : Nat} (hb : b < 18446744073709551616) (hn : Fl.isN b = false) (h : ¬ (b = 0 ∨ b = 9223372036854775808)) : oLt (fo b) (fo 0) = decide (¬ b < 9223372036854775808) := by rw [← fo_lt, Fl.ord_m hb hn h]

theorem iv_Up {o : Option Nat} : Fn Try.prog 27 [T.F o] [] [] [] (T.F (oUp o)) := by
  refine fn_of Try.func27 rfl (by show 1 ≤ 28; decide) fun cx hcx => ?_
  refine tri_sub (sl 0 rfl sn) en ?_
  refine tri_ex 0 rfl fun b ⟨hb, hf⟩ => ?_
  subst hf
  have ib : BLt b := ⟨hb⟩
  refine tri_seq ?_
  refine tri_reg mixed hcx ?_ _ _
  refine asg rfl ?_
  refine ⟨by kernel_rfl, ?_⟩
  refine nx (sl 0 rfl sn) en ?_
  refine tri_seq ?_
  refine tri_reg mixed hcx ?_ _ _
  refine mv rfl ?_
  refine xt rfl (run_f64bits _) ?_
  refine asg rfl ?_
  refine ⟨by kernel_rfl, ?_⟩
  refine nx (sl 0 rfl (sl 3 rfl sn)) en ?_
  refine tri_seq ?_
  refine tri_block ?_
  refine tri_seq ?_
  rcases up_cases hb with hn | ⟨hn, h1⟩ | ⟨hn, h1, h2⟩ | ⟨hn, h1, h2, h3⟩ | ⟨hn, h1, h2, h3⟩
  · refine tri_reg mixed hcx ?_ _ _
    refine mv rfl ?_
    refine mv rfl ?_
    refine fne rfl rfl (ne_self.trans hn) ?_
    refine mv rfl ?_
    refine j_off rfl rfl rfl rfl ?_
    refine j_off rfl rfl rfl rfl ?_
    refine pk rfl rfl ?_
    refine asg rfl ?_
    refine ⟨by kernel_rfl, ?_⟩
    refine nx (sl 0 rfl (sl 3 rfl (sl 6 rfl sn))) en ?_
    refine tri_true rfl rfl ?_
    refine tri_seq ?_
    refine tri_reg mixed hcx ?_ _ _
    refine mv rfl ?_
    refine asg rfl ?_
    refine ⟨by kernel_rfl, ?_⟩
    refine nx (sl 2 rfl sn) en ?_
    refine tri_ret ?_
    repeat (first | refine pn_thenr ?_ | refine pn_blkr ?_)
    exact ret1 hcx rfl (rv_tmp rfl) (same_out hb (up_n hn)) en
  · refine tri_reg mixed hcx ?_ _ _
    refine mv rfl ?_
    refine mv rfl ?_
    refine fne rfl rfl (ne_self.trans hn) ?_
    refine mv rfl ?_
    refine mv rfl ?_ (hg := gd1)
    refine caf rfl (h := (fn_out c_IsInf1 (.of (show T.c (.bool (oInf 1 (fo b))) = T.c (.bool true) from by rw [h1]; rfl)))) (hn := ?_) (hg := gd1)
    refine pk rfl rfl ?_
    refine asg rfl ?_
    refine ⟨by kernel_rfl, ?_⟩
    refine nx (sl 0 rfl (sl 3 rfl (sl 6 rfl sn))) en ?_
    refine tri_true rfl rfl ?_
    refine tri_seq ?_
    refine tri_reg mixed hcx ?_ _ _
    refine mv rfl ?_
    refine asg rfl ?_
    refine ⟨by kernel_rfl, ?_⟩
    refine nx (sl 2 rfl sn) en ?_
    refine tri_ret ?_
    repeat (first | refine pn_thenr ?_ | refine pn_blkr ?_)
    exact ret1 hcx rfl (rv_tmp rfl) (same_out hb (by rw [h1]; rfl)) en
  · refine tri_reg mixed hcx ?_ _ _
    refine mv rfl ?_
    refine mv rfl ?_
    refine fne rfl rfl (ne_self.trans hn) ?_
    refine mv rfl ?_
    refine mv rfl ?_ (hg := gd1)
    refine caf rfl (h := (fn_out c_IsInf1 (.of (by rw [inf1_f hn h1])))) (hn := ?_) (hg := gd1)
    refine pk rfl rfl ?_
    refine asg rfl ?_
    refine ⟨by kernel_rfl, ?_⟩
    refine nx (sl 0 rfl (sl 3 rfl (sl 6 rfl sn))) en ?_
    refine tri_false rfl rfl ?_
    refine tri_seq ?_
    refine tri_reg mixed hcx ?_ _ _
    refine mv rfl ?_
    refine feq rfl rfl ((eq0 hb).trans (decide_eq_true h2)) ?_
    refine asg rfl ?_
    refine ⟨by kernel_rfl, ?_⟩
    refine nx (sl 0 rfl (sl 3 rfl (sl 15 rfl sn))) en ?_
    refine tri_true rfl rfl ?_
    refine tri_seq ?_
    refine tri_reg mixed hcx ?_ _ _
    refine xt rfl (run_f64from _) ?_
    refine asg rfl ?_
    refine ⟨by kernel_rfl, ?_⟩
    refine nx (sl 2 rfl sn) en ?_
    refine tri_ret ?_
    repeat (first | refine pn_thenr ?_ | refine pn_blkr ?_)
    exact ret1 hcx rfl (rv_tmp rfl) (up_out (z := 1) (by rw [up_z hn h1 h2]; rfl) (by decide)) en
  · refine tri_reg mixed hcx ?_ _ _
    refine mv rfl ?_
    refine mv rfl ?_
    refine fne rfl rfl (ne_self.trans hn) ?_
    refine mv rfl ?_
    refine mv rfl ?_ (hg := gd1)
    refine caf rfl (h := (fn_out c_IsInf1 (.of (by rw [inf1_f hn h1])))) (hn := ?_) (hg := gd1)
    refine pk rfl rfl ?_
    refine asg rfl ?_
    refine ⟨by kernel_rfl, ?_⟩
    refine nx (sl 0 rfl (sl 3 rfl (sl 6 rfl sn))) en ?_
    refine tri_false rfl rfl ?_
    refine tri_seq ?_
    refine tri_reg mixed hcx ?_ _ _
    refine mv rfl ?_
    refine feq rfl rfl ((eq0 hb).trans (decide_eq_false h2)) ?_
    refine asg rfl ?_
    refine ⟨by kernel_rfl, ?_⟩
    refine nx (sl 0 rfl (sl 3 rfl (sl 15 rfl sn))) en ?_
    refine tri_false rfl rfl ?_
    refine tri_seq ?_
    refine tri_reg mixed hcx ?_ _ _
    refine mv rfl ?_
    refine flt rfl rfl ((lt0 hb hn h2).trans (decide_eq_true (by omega))) ?_
    refine asg rfl ?_
    refine ⟨by kernel_rfl, ?_⟩
    refine nx (sl 3 rfl (sl 19 rfl sn)) en ?_
    refine tri_true rfl rfl ?_
    refine tri_seq ?_
    refine tri_reg mixed hcx ?_ _ _
    refine mv rfl ?_
    refine sb ((b : Int) - 1) rfl rfl rfl (by omega) ?_
    refine xt rfl (run_f64from _) ?_
    refine asg rfl ?_
    refine ⟨by kernel_rfl, ?_⟩
    refine nx (sl 2 rfl sn) en ?_
    refine tri_ret ?_
    repeat (first | refine pn_thenr ?_ | refine pn_blkr ?_)
    exact ret1 hcx rfl (rv_tmp rfl) (up_out (by rw [up_m hn h1 h2, if_neg (by omega)]; exact (show fo _ = some _ from by rw [show ((b : Int) - 1).toNat = b - 1 from by omega]; exact fo_s (by have := up_num hb hn h1 h2; rwa [if_neg (by omega)] at this))) (by omega)) en
  · refine tri_reg mixed hcx ?_ _ _
    refine mv rfl ?_
    refine mv rfl ?_
    refine fne rfl rfl (ne_self.trans hn) ?_
    refine mv rfl ?_
    refine mv rfl ?_ (hg := gd1)
    refine caf rfl (h := (fn_out c_IsInf1 (.of (by rw [inf1_f hn h1])))) (hn := ?_) (hg := gd1)
    refine pk rfl rfl ?_
    refine asg rfl ?_
    refine ⟨by kernel_rfl, ?_⟩
    refine nx (sl 0 rfl (sl 3 rfl (sl 6 rfl sn))) en ?_
    refine tri_false rfl rfl ?_
    refine tri_seq ?_
    refine tri_reg mixed hcx ?_ _ _
    refine mv rfl ?_
    refine feq rfl rfl ((eq0 hb).trans (decide_eq_false h2)) ?_
    refine asg rfl ?_
    refine ⟨by kernel_rfl, ?_⟩
    refine nx (sl 0 rfl (sl 3 rfl (sl 15 rfl sn))) en ?_
    refine tri_false rfl rfl ?_
    refine tri_seq ?_
    refine tri_reg mixed hcx ?_ _ _
    refine mv rfl ?_
    refine flt rfl rfl ((lt0 hb hn h2).trans (decide_eq_false (by omega))) ?_
    refine asg rfl ?_
    refine ⟨by kernel_rfl, ?_⟩
    refine nx (sl 3 rfl (sl 19 rfl sn)) en ?_
    refine tri_false rfl rfl ?_
    refine tri_skip ?_
    refine pn_blk ?_
    refine nx (sl 3 rfl sn) en ?_
    refine tri_seq ?_
    refine tri_reg mixed hcx ?_ _ _
    refine mv rfl ?_
    refine ad ((b : Int) + 1) rfl rfl rfl (by omega) ?_
    refine xt rfl (run_f64from _) ?_
    refine asg rfl ?_
    refine ⟨by kernel_rfl, ?_⟩
    refine nx (sl 2 rfl sn) en ?_
    refine tri_ret ?_
    repeat (first | refine pn_thenr ?_ | refine pn_blkr ?_)
    exact ret1 hcx rfl (rv_tmp rfl) (up_out (by rw [up_m hn h1 h2, if_pos h3]; exact (show fo _ = some _ from by rw [show ((b : Int) + 1).toNat = b + 1 from by omega]; exact fo_s (by have := up_num hb hn h1 h2; rwa [if_pos h3] at this))) (by omega)) en

theorem iv_Down {o : Option Nat} : Fn Try.prog 62 [T.F o] [] [] [] (T.F (oDn o)) := by
  refine fn_of Try.func62 rfl (by show 1 ≤ 7; decide) fun cx hcx => ?_
  refine tri_sub (sl 0 rfl sn) en ?_
  refine tri_seq ?_
  refine tri_reg mixed hcx ?_ _ _
  refine asg rfl ?_
  refine ⟨by kernel_rfl, ?_⟩
  refine nx (sl 0 rfl sn) en ?_
  refine tri_seq ?_
  refine tri_reg mixed hcx ?_ _ _
  refine mv rfl ?_
  refine fng rfl ?_
  refine caf rfl (h := iv_Up) (hn := ?_)
  refine fng rfl ?_
  refine asg rfl ?_
  refine ⟨by kernel_rfl, ?_⟩
  refine nx (sl 2 rfl sn) en ?_
  refine tri_ret ?_
  repeat (first | refine pn_thenr ?_ | refine pn_blkr ?_)
  exact ret1 hcx rfl (rv_tmp rfl) (.refl _) en

theorem r9_bits {b : Nat} : Fn Try.prog 58 [T.c (.float .f64 b)] [] [] [] (T.c (.int .u64 (b : Int))) := by
  refine fn_of Try.func58 rfl (by show 1 ≤ 5; decide) fun cx hcx => ?_
  refine tri_sub (sl 0 rfl sn) en ?_
  refine tri_seq ?_
  refine tri_reg mixed hcx ?_ _ _
  refine asg rfl ?_
  refine ⟨by kernel_rfl, ?_⟩
  refine nx (sl 0 rfl sn) en ?_
  refine tri_seq ?_
  refine tri_reg mixed hcx ?_ _ _
  refine mv rfl ?_
  refine xt rfl (run_f64bits _) ?_
  refine asg rfl ?_
  refine ⟨by kernel_rfl, ?_⟩
  refine nx (sl 2 rfl sn) en ?_
  refine tri_ret ?_
  repeat (first | refine pn_thenr ?_ | refine pn_blkr ?_)
  exact ret1 hcx rfl (rv_tmp rfl) (.refl _) en

theorem r9_of {z : Int} : Fn Try.prog 77 [T.c (.int .u64 z)] [] [] [] (T.c (.float .f64 z.toNat)) := by
  refine fn_of Try.func77 rfl (by show 1 ≤ 5; decide) fun cx hcx => ?_
  refine tri_sub (sl 0 rfl sn) en ?_
  refine tri_seq ?_
  refine tri_reg mixed hcx ?_ _ _
  refine asg rfl ?_
  refine ⟨by kernel_rfl, ?_⟩
  refine nx (sl 0 rfl sn) en ?_
  refine tri_seq ?_
  refine tri_reg mixed hcx ?_ _ _
  refine mv rfl ?_
  refine xt rfl (run_f64from _) ?_
  refine asg rfl ?_
  refine ⟨by kernel_rfl, ?_⟩
  refine nx (sl 2 rfl sn) en ?_
  refine tri_ret ?_
  repeat (first | refine pn_thenr ?_ | refine pn_blkr ?_)
  exact ret1 hcx rfl (rv_tmp rfl) (.refl _) en

theorem r9_Up {o : Option Nat} : Fn Try.prog 50 [T.F o] [] [] [] (T.F (oUp o)) := by
  refine fn_of Try.func50 rfl (by show 1 ≤ 29; decide) fun cx hcx => ?_
  refine tri_sub (sl 0 rfl sn) en ?_
  refine tri_ex 0 rfl fun b ⟨hb, hf⟩ => ?_
  subst hf
  have ib : BLt b := ⟨hb⟩
  refine tri_seq ?_
  refine tri_reg mixed hcx ?_ _ _
  refine asg rfl ?_
  refine ⟨by kernel_rfl, ?_⟩
  refine nx (sl 0 rfl sn) en ?_
  refine tri_seq ?_
  refine tri_reg mixed hcx ?_ _ _
  refine mv rfl ?_
  refine caf rfl (h := r9_bits) (hn := ?_)
  refine asg rfl ?_
  refine ⟨by kernel_rfl, ?_⟩
  refine nx (sl 0 rfl (sl 3 rfl sn)) en ?_
  refine tri_seq ?_
  refine tri_seq ?_
  rcases up_cases hb with hn | ⟨hn, h1⟩ | ⟨hn, h1, h2⟩ | ⟨hn, h1, h2, h3⟩ | ⟨hn, h1, h2, h3⟩
  · refine tri_reg mixed hcx ?_ _ _
    refine mv rfl ?_
    refine mv rfl ?_
    refine fne rfl rfl (ne_self.trans hn) ?_
    refine mv rfl ?_
    refine j_off rfl rfl rfl rfl ?_
    refine j_off rfl rfl rfl rfl ?_
    refine pk rfl rfl ?_
    refine ⟨by kernel_rfl, ?_⟩
    refine nx (sl 0 rfl (sl 3 rfl (sl 12 rfl sn))) en ?_
    refine tri_true rfl rfl ?_
    refine tri_seq ?_
    refine tri_reg mixed hcx ?_ _ _
    refine mv rfl ?_
    refine asg rfl ?_
    refine ⟨by kernel_rfl, ?_⟩
    refine nx (sl 2 rfl sn) en ?_
    refine tri_ret ?_
    repeat (first | refine pn_thenr ?_ | refine pn_blkr ?_)
    exact ret1 hcx rfl (rv_tmp rfl) (same_out hb (up_n hn)) en
  · refine tri_reg mixed hcx ?_ _ _
    refine mv rfl ?_
    refine mv rfl ?_
    refine fne rfl rfl (ne_self.trans hn) ?_
    refine mv rfl ?_
    refine mv rfl ?_ (hg := gd1)
    refine ceq rfl rfl (decide_eq_true (by omega)) ?_ (hg := gd1)
    refine pk rfl rfl ?_
    refine ⟨by kernel_rfl, ?_⟩
    refine nx (sl 0 rfl (sl 3 rfl (sl 12 rfl sn))) en ?_
    refine tri_true rfl rfl ?_
    refine tri_seq ?_
    refine tri_reg mixed hcx ?_ _ _
    refine mv rfl ?_
    refine asg rfl ?_
    refine ⟨by kernel_rfl, ?_⟩
    refine nx (sl 2 rfl sn) en ?_
    refine tri_ret ?_
    repeat (first | refine pn_thenr ?_ | refine pn_blkr ?_)
    exact ret1 hcx rfl (rv_tmp rfl) (same_out hb (by rw [h1]; rfl)) en
  · refine tri_reg mixed hcx ?_ _ _
    refine mv rfl ?_
    refine mv rfl ?_
    refine fne rfl rfl (ne_self.trans hn) ?_
    refine mv rfl ?_
    refine mv rfl ?_ (hg := gd1)
    refine ceq rfl rfl (decide_eq_false (by omega)) ?_ (hg := gd1)
    refine pk rfl rfl ?_
    refine ⟨by kernel_rfl, ?_⟩
    refine nx (sl 0 rfl (sl 3 rfl (sl 12 rfl sn))) en ?_
    refine tri_false rfl rfl ?_
    refine tri_skip ?_
    refine nx (sl 3 rfl sn) en ?_
    refine tri_seq ?_
    refine tri_seq ?_
    rcases h2 with h3 | h3
    · have h2 : b = 0 ∨ b = 9223372036854775808 := .inl h3
      refine tri_reg mixed hcx ?_ _ _
      refine mv rfl ?_
      refine ceq rfl rfl (decide_eq_true (by omega)) ?_
      refine mv rfl ?_
      refine j_off rfl rfl rfl rfl ?_
      refine j_off rfl rfl rfl rfl ?_
      refine pk rfl rfl ?_
      refine ⟨by kernel_rfl, ?_⟩
      refine nx (sl 3 rfl (sl 19 rfl sn)) en ?_
      refine tri_true rfl rfl ?_
      refine tri_seq ?_
      refine tri_reg mixed hcx ?_ _ _
      refine ca rfl (h := r9_of) (hn := ?_)
      refine asg rfl ?_
      refine ⟨by kernel_rfl, ?_⟩
      refine nx (sl 2 rfl sn) en ?_
      refine tri_ret ?_
      repeat (first | refine pn_thenr ?_ | refine pn_blkr ?_)
      exact ret1 hcx rfl (rv_tmp rfl) (up_out (z := 1) (by rw [up_z hn h1 h2]; rfl) (by decide)) en
    · have h2 : b = 0 ∨ b = 9223372036854775808 := .inr h3
      refine tri_reg mixed hcx ?_ _ _
      refine mv rfl ?_
      refine ceq rfl rfl (decide_eq_false (by omega)) ?_
      refine mv rfl ?_
      refine mv rfl ?_ (hg := gd1)
      refine ceq rfl rfl (decide_eq_true (by omega)) ?_ (hg := gd1)
      refine pk rfl rfl ?_
      refine ⟨by kernel_rfl, ?_⟩
      refine nx (sl 3 rfl (sl 19 rfl sn)) en ?_
      refine tri_true rfl rfl ?_
      refine tri_seq ?_
      refine tri_reg mixed hcx ?_ _ _
      refine ca rfl (h := r9_of) (hn := ?_)
      refine asg rfl ?_
      refine ⟨by kernel_rfl, ?_⟩
      refine nx (sl 2 rfl sn) en ?_
      refine tri_ret ?_
      repeat (first | refine pn_thenr ?_ | refine pn_blkr ?_)
      exact ret1 hcx rfl (rv_tmp rfl) (up_out (z := 1) (by rw [up_z hn h1 h2]; rfl) (by decide)) en
  · refine tri_reg mixed hcx ?_ _ _
    refine mv rfl ?_
    refine mv rfl ?_
    refine fne rfl rfl (ne_self.trans hn) ?_
    refine mv rfl ?_
    refine mv rfl ?_ (hg := gd1)
    refine ceq rfl rfl (decide_eq_false (by omega)) ?_ (hg := gd1)
    refine pk rfl rfl ?_
    refine ⟨by kernel_rfl, ?_⟩
    refine nx (sl 0 rfl (sl 3 rfl (sl 12 rfl sn))) en ?_
    refine tri_false rfl rfl ?_
    refine tri_skip ?_
    refine nx (sl 3 rfl sn) en ?_
    refine tri_seq ?_
    refine tri_seq ?_
    refine tri_reg mixed hcx ?_ _ _
    refine mv rfl ?_
    refine ceq rfl rfl (decide_eq_false (by omega)) ?_
    refine mv rfl ?_
    refine mv rfl ?_ (hg := gd1)
    refine ceq rfl rfl (decide_eq_false (by omega)) ?_ (hg := gd1)
    refine pk rfl rfl ?_
    refine ⟨by kernel_rfl, ?_⟩
    refine nx (sl 3 rfl (sl 19 rfl sn)) en ?_
    refine tri_false rfl rfl ?_
    refine tri_skip ?_
    refine nx (sl 3 rfl sn) en ?_
    refine tri_seq ?_
    refine tri_seq ?_
    refine tri_reg mixed hcx ?_ _ _
    refine mv rfl ?_
    refine clt rfl rfl (decide_eq_false (by omega)) ?_
    refine ⟨by kernel_rfl, ?_⟩
    refine nx (sl 3 rfl (sl 22 rfl sn)) en ?_
    refine tri_false rfl rfl ?_
    refine tri_skip ?_
    refine nx (sl 3 rfl sn) en ?_
    refine tri_seq ?_
    refine tri_reg mixed hcx ?_ _ _
    refine mv rfl ?_
    refine sb ((b : Int) - 1) rfl rfl rfl (by omega) ?_
    refine ca rfl (h := r9_of) (hn := ?_)
    refine asg rfl ?_
    refine ⟨by kernel_rfl, ?_⟩
    refine nx (sl 2 rfl sn) en ?_
    refine tri_ret ?_
    repeat (first | refine pn_thenr ?_ | refine pn_blkr ?_)
    exact ret1 hcx rfl (rv_tmp rfl) (up_out (by rw [up_m hn h1 h2, if_neg (by omega)]; exact (show fo _ = some _ from by rw [show ((b : Int) - 1).toNat = b - 1 from by omega]; exact fo_s (by have := up_num hb hn h1 h2; rwa [if_neg (by omega)] at this))) (by omega)) en
  · refine tri_reg mixed hcx ?_ _ _
    refine mv rfl ?_
    refine mv rfl ?_
    refine fne rfl rfl (ne_self.trans hn) ?_
    refine mv rfl ?_
    refine mv rfl ?_ (hg := gd1)
    refine ceq rfl rfl (decide_eq_false (by omega)) ?_ (hg := gd1)
    refine pk rfl rfl ?_
    refine ⟨by kernel_rfl, ?_⟩
    refine nx (sl 0 rfl (sl 3 rfl (sl 12 rfl sn))) en ?_
    refine tri_false rfl rfl ?_
    refine tri_skip ?_
    refine nx (sl 3 rfl sn) en ?_
    refine tri_seq ?_
    refine tri_seq ?_
    refine tri_reg mixed hcx ?_ _ _
    refine mv rfl ?_
    refine ceq rfl rfl (decide_eq_false (by omega)) ?_
    refine mv rfl ?_
    refine mv rfl ?_ (hg := gd1)
    refine ceq rfl rfl (decide_eq_false (by omega)) ?_ (hg := gd1)
    refine pk rfl rfl ?_
    refine ⟨by kernel_rfl, ?_⟩
    refine nx (sl 3 rfl (sl 19 rfl sn)) en ?_
    refine tri_false rfl rfl ?_
    refine tri_skip ?_
    refine nx (sl 3 rfl sn) en ?_
    refine tri_seq ?_
    refine tri_seq ?_
    refine tri_reg mixed hcx ?_ _ _
    refine mv rfl ?_
    refine clt rfl rfl (decide_eq_true (by omega)) ?_
    refine ⟨by kernel_rfl, ?_⟩
    refine nx (sl 3 rfl (sl 22 rfl sn)) en ?_
    refine tri_true rfl rfl ?_
    refine tri_seq ?_
    refine tri_reg mixed hcx ?_ _ _
    refine mv rfl ?_
    refine ad ((b : Int) + 1) rfl rfl rfl (by omega) ?_
    refine ca rfl (h := r9_of) (hn := ?_)
    refine asg rfl ?_
    refine ⟨by kernel_rfl, ?_⟩
    refine nx (sl 2 rfl sn) en ?_
    refine tri_ret ?_
    repeat (first | refine pn_thenr ?_ | refine pn_blkr ?_)
    exact ret1 hcx rfl (rv_tmp rfl) (up_out (by rw [up_m hn h1 h2, if_pos h3]; exact (show fo _ = some _ from by rw [show ((b : Int) + 1).toNat = b + 1 from by omega]; exact fo_s (by have := up_num hb hn h1 h2; rwa [if_pos h3] at this))) (by omega)) en

theorem l9_equal {o : Option Nat} : Fn Try.prog 43 [T.F o, T.F o] [] [] [] (T.c (.bool true)) := by
  refine fn_of Try.func43 rfl (by show 2 ≤ 18; decide) fun cx hcx => ?_
  refine tri_sub (sl 0 rfl (sl 1 rfl sn)) en ?_
  refine tri_seq ?_
  refine tri_reg mixed hcx ?_ _ _
  refine asg rfl ?_
  refine ⟨by kernel_rfl, ?_⟩
  refine nx (sl 0 rfl (sl 1 rfl sn)) en ?_
  refine tri_seq ?_
  rcases o with _ | b
  · refine tri_reg mixed hcx ?_ _ _
    refine mv rfl ?_
    refine mv rfl ?_
    refine feq rfl rfl (show _ = false from rfl) ?_
    refine mv rfl ?_
    refine mv rfl ?_ (hg := gd1)
    refine mv rfl ?_ (hg := gd1)
    refine fne rfl rfl (show _ = true from rfl) ?_ (hg := gd1)
    refine mv rfl ?_ (hg := gd1)
    refine mv rfl ?_ (hg := gd1)
    refine mv rfl ?_ (hg := gd1)
    refine fne rfl rfl (show _ = true from rfl) ?_ (hg := gd1)
    refine pk rfl rfl ?_ (hg := gd1)
    refine pk rfl rfl ?_
    refine asg rfl ?_
    refine ⟨by kernel_rfl, ?_⟩
    refine nx (sl 4 rfl sn) en ?_
    refine tri_ret ?_
    repeat (first | refine pn_thenr ?_ | refine pn_blkr ?_)
    exact ret1 hcx rfl (rv_tmp rfl) (.refl _) en
  · refine tri_reg mixed hcx ?_ _ _
    refine mv rfl ?_
    refine mv rfl ?_
    refine feq rfl rfl (show _ = true from by simp [oEq]) ?_
    refine mv rfl ?_
    refine j_off rfl rfl rfl rfl ?_
    refine j_off rfl rfl rfl rfl ?_
    refine j_off rfl rfl rfl rfl ?_
    refine j_off rfl rfl rfl rfl ?_
    refine j_ofu rfl rfl rfl ?_
    refine j_ofu rfl rfl rfl ?_
    refine j_ofu rfl rfl rfl ?_
    refine j_off rfl rfl rfl rfl ?_
    refine pk rfl rfl ?_
    refine asg rfl ?_
    refine ⟨by kernel_rfl, ?_⟩
    refine nx (sl 4 rfl sn) en ?_
    refine tri_ret ?_
    repeat (first | refine pn_thenr ?_ | refine pn_blkr ?_)
    exact ret1 hcx rfl (rv_tmp rfl) (.refl _) en
end Go.Proofs.Ytlmiadjogdfjkaa.V
