/- Ldexp of 53 digits; shifts of numbers. -/
import Derived.Test.YtlmiadjogdfjkaaKL
import Derived.Test.YtlmiadjogdfjkaaFz
set_option linter.unusedVariables false
set_option linter.unusedSimpArgs false
set_option maxRecDepth 100000
namespace Go.Proofs.Ytlmiadjogdfjkaa.V
open Go.RowKit Mt Nml
theorem nbits_pos {N : Nat} (h : 0 < N) : 0 < nbits N := by have := nbits_zero_iff N; omega
theorem shl_lim {N : Nat} (hN : 0 < N) (n : Nat) : lim (N * 2 ^ n) ≤ (dig N).length + n / 32 + 1 := by
  have h1 := lim_mul N (2 ^ n)
  have h2 := two_limb n
  show lim (N * 2 ^ n) ≤ lim N + n / 32 + 1
  omega

theorem mant_nat {w : Nat} (h : w < 2 ^ 63) : w &&& 9227875636482146303 = w % 4503599627370496 := by
  have z : w &&& 2 ^ 63 = 0 := by
    refine Nat.eq_of_testBit_eq fun i => ?_
    rw [Nat.testBit_and, Nat.testBit_two_pow, Nat.zero_testBit]
    by_cases h63 : 63 = i
    · subst h63; rw [Nat.testBit_lt_two_pow h]; rfl
    · simp [h63]
  rw [show (9227875636482146303 : Nat) = 2 ^ 63 ||| 4503599627370495 by decide, Nat.and_or_distrib_left, z, Nat.zero_or]
  exact Nat.and_two_pow_sub_one_eq_mod w 52
theorem cvIU64 : Cv Try.prog 3 48 .u64 := ⟨by kernel_rfl, by kernel_rfl⟩
theorem tri_falsec {P : Program} {x y : Code} {Q : Exit → Act → World → Prop} {c : Ctx} {n : Nat} {g : List (Nat × T)} {E : List (Nat × Option Ent)} (h : Tri P y Q c n g E) : Tri P (.cond (.const (.bool false)) x y) Q c n g E := fun a w hS => wp_cond_false (by simp [Act.eval]) (h a w hS)
theorem not_exp {w : Nat} (h : w < 9223372036854775808) : bits .andNot .u64 (w : Int) 9218868437227405312 = ((w % 4503599627370496 : Nat) : Int) := by
  rw [show (9218868437227405312 : Int) = ((9218868437227405312 : Nat) : Int) from rfl, u64_andNot_nat w _ (by omega) (by decide)]
  exact congrArg _ (mant_nat (by omega))
instance : BLt 4503599627370496 := ⟨by decide⟩
theorem inf_F : (T.c (.float .f64 9218868437227405312)).le (T.F (some 9218868437227405312)) := fun β u v k => ⟨9218868437227405312, ⟨by decide, by decide⟩, k⟩
theorem wd_z {E q : Nat} (hE : E ≤ 2046) (h1 : 4503599627370496 ≤ q) (h2 : q < 9007199254740992) : oEq (fo (wd E q)) (fo 0) = false := by
  rw [wd_fo hE h2, show fo 0 = some 0 by decide]
  show decide (Fl.key (wd E q) = Fl.key 0) = false
  rw [wd_key hE h2, show Fl.key 0 = 0 by decide]
  exact decide_eq_false (by unfold wd; omega)
theorem wd_i {E q : Nat} (hE : E ≤ 2046) (h2 : q < 9007199254740992) {s : Int} : oInf s (fo (wd E q)) = false := by
  have := wd_lt hE h2
  rw [wd_fo hE h2]
  exact decide_eq_false (by omega)
theorem wd_self {E q : Nat} (hE : E ≤ 2046) (h2 : q < 9007199254740992) : (!oEq (fo (wd E q)) (fo (wd E q))) = false := by rw [oEq_self, wd_fo hE h2]; rfl
theorem wd_abs {E q : Nat} (hE0 : 1 ≤ E) (hE : E ≤ 2046) (h1 : 4503599627370496 ≤ q) (h2 : q < 9007199254740992) : oLt ((fo (wd E q)).map Fl.rung) (fo 4503599627370496) = false := by
  have hl := wd_lt hE h2
  rw [wd_fo hE h2, show fo 4503599627370496 = some 4503599627370496 by decide]
  have hr : Fl.rung (wd E q) = wd E q := by unfold Fl.rung; omega
  show decide (Fl.key (Fl.rung (wd E q)) < Fl.key 4503599627370496) = false
  rw [hr, wd_key hE h2, show Fl.key 4503599627370496 = 4503599627370496 by decide]
  exact decide_eq_false (by unfold wd; omega)

theorem c_IsNaN {o : Option Nat} : Fn Try.prog 112 [T.F o] [] [] [] (T.c (.bool (!oEq o o))) := by
  refine fn_of Try.func112 rfl (by show 1 ≤ 6; decide) fun cx hcx => ?_
  refine tri_sub (sl 0 rfl sn) en ?_
  refine tri_seq ?_
  refine tri_reg mixed hcx ?_ _ _
  refine asg rfl ?_
  refine ⟨by kernel_rfl, ?_⟩
  refine nx (sl 0 rfl sn) en ?_
  refine tri_seq ?_
  refine tri_reg mixed hcx ?_ _ _
  refine mv rfl ?_
  refine mv rfl ?_
  refine fne rfl rfl rfl ?_
  refine asg rfl ?_
  refine ⟨by kernel_rfl, ?_⟩
  refine nx (sl 2 rfl sn) en ?_
  refine tri_ret ?_
  repeat (first | refine pn_thenr ?_ | refine pn_blkr ?_)
  exact ret1 hcx rfl (rv_tmp rfl) (.refl _) en

theorem c_normalize {q : Nat} (h1 : 4503599627370496 ≤ q) (h2 : q < 9007199254740992) : Fn Try.prog 113 [T.c (.float .f64 (wd 1075 q))] [] [] [] (T.tup [T.c (.float .f64 (wd 1075 q)), T.c (.int .i64 0)]) := by
  refine fn_of Try.func113 rfl (by show 1 ≤ 10; decide) fun cx hcx => ?_
  refine tri_sub (sl 0 rfl sn) en ?_
  have iw : BLt (wd 1075 q) := ⟨by unfold wd; omega⟩
  refine tri_seq ?_
  refine tri_reg mixed hcx ?_ _ _
  refine asg rfl ?_
  refine asg rfl ?_
  refine ⟨by kernel_rfl, ?_⟩
  refine nx (sl 0 rfl sn) en ?_
  refine tri_seq ?_
  refine tri_seq ?_
  refine tri_reg mixed hcx ?_ _ _
  refine mv rfl ?_
  refine caf rfl (h := c_Abs) (hn := ?_)
  refine flt rfl rfl (wd_abs (by omega) (by omega) h1 h2) ?_
  refine ⟨by kernel_rfl, ?_⟩
  refine nx (sl 0 rfl (sl 6 rfl sn)) en ?_
  refine tri_false rfl rfl ?_
  refine tri_skip ?_
  refine nx (sl 0 rfl sn) en ?_
  refine tri_seq ?_
  refine tri_reg mixed hcx ?_ _ _
  refine mv rfl ?_
  refine asg rfl ?_
  refine asg rfl ?_
  refine ⟨by kernel_rfl, ?_⟩
  refine nx (sl 2 rfl (sl 3 rfl sn)) en ?_
  refine tri_ret ?_
  repeat (first | refine pn_thenr ?_ | refine pn_blkr ?_)
  exact ret2 hcx rfl (rv_tmp rfl) (rv_tmp rfl) (.refl _) en

theorem or_wd {X q : Nat} (hX : 1 ≤ X) (hX2 : X ≤ 2046) (h1 : 4503599627370496 ≤ q) (h2 : q < 9007199254740992) : bits .or .u64 ((wd 1075 q % 4503599627370496 : Nat) : Int) ((X * 4503599627370496 : Nat) : Int) = ((wd X q : Nat) : Int) := by
  have e : wd 1075 q % 4503599627370496 = q - 4503599627370496 := by unfold wd; omega
  rw [e, or_u64_swap (by omega) (by omega) (by omega) (by omega), or_u64 52 (by omega) (by omega) (by rw [show (2 : Int) ^ 52 = 4503599627370496 by decide]; omega) (by omega) (by rw [show (2 : Int) ^ 52 = 4503599627370496 by decide]; omega) (by omega)]
  unfold wd
  omega

theorem c_ldexp {q : Nat} (h1 : 4503599627370496 ≤ q) (h2 : q < 9007199254740992) {e : Int} (he : -1074 ≤ e) (he2 : e ≤ 971) : Fn Try.prog 108 [T.c (.float .f64 (wd 1075 q)), T.c (.int .i64 e)] [] [] [] (T.F (some (wd (e + 1075).toNat q))) := by
  refine fn_of Try.func108 rfl (by show 2 ≤ 63; decide) fun cx hcx => ?_
  refine tri_sub (sl 0 rfl (sl 1 rfl sn)) en ?_
  have iw : BLt (wd 1075 q) := ⟨by unfold wd; omega⟩
  have hw0 : (wd 1075 q : Nat) = 4836865999795912704 + q := by unfold wd; omega
  have hb := wd_nn (E := 1075) (q := q) (by omega) h2
  obtain ⟨X, hX⟩ : ∃ X, X = (e + 1075).toNat := ⟨_, rfl⟩
  have iX : BLt (wd X q) := ⟨by unfold wd; omega⟩
  have iX2 : BLt ((wd X q : Nat) : Int).toNat := iX
  refine tri_seq ?_
  refine tri_reg mixed hcx ?_ _ _
  refine asg rfl ?_
  refine ⟨by kernel_rfl, ?_⟩
  refine nx (sl 0 rfl (sl 1 rfl sn)) en ?_
  refine tri_seq ?_
  refine tri_block ?_
  refine tri_seq ?_
  refine tri_reg mixed hcx ?_ _ _
  refine mv rfl ?_
  refine feq rfl rfl (wd_z (by omega) h1 h2) ?_
  refine asg rfl ?_
  refine ⟨by kernel_rfl, ?_⟩
  refine nx (sl 0 rfl (sl 1 rfl (sl 8 rfl sn))) en ?_
  refine tri_false rfl rfl ?_
  refine tri_seq ?_
  refine tri_reg mixed hcx ?_ _ _
  refine mv rfl ?_
  refine caf rfl (h := (fn_out c_IsInf0 (.of (by rw [wd_i (by omega) h2])))) (hn := ?_)
  refine mv rfl ?_
  refine mv rfl ?_ (hg := gd1)
  refine caf rfl (h := (fn_out c_IsNaN (.of (by rw [wd_self (by omega) h2])))) (hn := ?_) (hg := gd1)
  refine pk rfl rfl ?_
  refine asg rfl ?_
  refine ⟨by kernel_rfl, ?_⟩
  refine nx (sl 0 rfl (sl 1 rfl (sl 12 rfl sn))) en ?_
  refine tri_false rfl rfl ?_
  refine tri_skip ?_
  refine pn_blk ?_
  refine nx (sl 0 rfl (sl 1 rfl sn)) en ?_
  refine tri_seq ?_
  refine tri_reg mixed hcx ?_ _ _
  refine mv rfl ?_
  refine caf rfl (h := c_normalize h1 h2) (hn := ?_)
  refine mv rfl ?_
  refine ex rfl rfl ?_
  refine ex rfl rfl ?_
  refine asg rfl ?_
  refine asg rfl ?_
  refine ⟨by kernel_rfl, ?_⟩
  refine nx (sl 0 rfl (sl 1 rfl (sl 5 rfl sn))) en ?_
  refine tri_seq ?_
  refine tri_reg mixed hcx ?_ _ _
  refine mv rfl ?_
  refine mv rfl ?_
  refine ad (e) rfl rfl rfl (by omega) ?_
  refine asg rfl ?_
  refine ⟨by kernel_rfl, ?_⟩
  refine nx (sl 0 rfl (sl 1 rfl sn)) en ?_
  refine tri_seq ?_
  refine tri_reg mixed hcx ?_ _ _
  refine mv rfl ?_
  refine xt rfl (run_f64bits _) ?_
  refine asg rfl ?_
  refine ⟨by kernel_rfl, ?_⟩
  refine nx (sl 0 rfl (sl 1 rfl (sl 6 rfl sn))) en ?_
  refine tri_seq ?_
  refine tri_reg mixed hcx ?_ _ _
  refine mv rfl ?_
  refine mv rfl ?_
  refine shR (s := 52) (1075) rfl rfl rfl ⟨by omega, by omega, by decide⟩ ?_
  refine cvt (1075) rfl cvU64I rfl (by omega) ?_
  refine ban (1075 : Int) rfl rfl (by decide) ?_
  refine sb (52) rfl rfl rfl (by omega) ?_
  refine ad (e + 52) rfl rfl rfl (by omega) ?_
  refine asg rfl ?_
  refine ⟨by kernel_rfl, ?_⟩
  refine nx (sl 0 rfl (sl 1 rfl (sl 6 rfl sn))) en ?_
  refine tri_seq ?_
  refine tri_seq ?_
  refine tri_reg mixed hcx ?_ _ _
  refine mv rfl ?_
  refine clt rfl rfl (decide_eq_false (by omega)) ?_
  refine ⟨by kernel_rfl, ?_⟩
  refine nx (sl 0 rfl (sl 1 rfl (sl 6 rfl (sl 38 rfl sn)))) en ?_
  refine tri_false rfl rfl ?_
  refine tri_skip ?_
  refine nx (sl 0 rfl (sl 1 rfl (sl 6 rfl sn))) en ?_
  refine tri_seq ?_
  refine tri_seq ?_
  refine tri_reg mixed hcx ?_ _ _
  refine mv rfl ?_
  refine cgt rfl rfl (decide_eq_false (by omega)) ?_
  refine ⟨by kernel_rfl, ?_⟩
  refine nx (sl 0 rfl (sl 1 rfl (sl 6 rfl (sl 42 rfl sn)))) en ?_
  refine tri_false rfl rfl ?_
  refine tri_skip ?_
  refine nx (sl 1 rfl (sl 6 rfl sn)) en ?_
  refine tri_seq ?_
  refine tri_reg mixed hcx ?_ _ _
  refine asg rfl ?_
  refine ⟨by kernel_rfl, ?_⟩
  refine nx (sl 1 rfl (sl 6 rfl (sl 7 rfl sn))) en ?_
  refine tri_seq ?_
  refine tri_seq ?_
  refine tri_reg mixed hcx ?_ _ _
  refine mv rfl ?_
  refine clt rfl rfl (decide_eq_false (by omega)) ?_
  refine ⟨by kernel_rfl, ?_⟩
  refine nx (sl 1 rfl (sl 6 rfl (sl 7 rfl (sl 48 rfl sn)))) en ?_
  refine tri_false rfl rfl ?_
  refine tri_skip ?_
  refine nx (sl 1 rfl (sl 6 rfl (sl 7 rfl sn))) en ?_
  refine tri_seq ?_
  refine tri_reg mixed hcx ?_ _ _
  refine mv rfl ?_
  refine bnt _ rfl rfl (not_exp (by omega)) ?_
  refine asg rfl ?_
  refine ⟨by kernel_rfl, ?_⟩
  refine nx (sl 1 rfl (sl 6 rfl (sl 7 rfl sn))) en ?_
  refine tri_seq ?_
  refine tri_reg mixed hcx ?_ _ _
  refine mv rfl ?_
  refine mv rfl ?_
  refine ad (((X : Nat) : Int)) rfl rfl rfl (by omega) ?_
  refine cvt (((X : Nat) : Int)) rfl cvIU64 rfl (by omega) ?_
  refine shL (s := 52) (((X * 4503599627370496 : Nat) : Int)) rfl rfl rfl rfl ⟨by omega, by omega, by omega, by decide⟩ ?_
  refine orr (((wd X q : Nat) : Int)) rfl rfl ((or_wd (by omega) (by omega) h1 h2)) ?_
  refine asg rfl ?_
  refine ⟨by kernel_rfl, ?_⟩
  refine nx (sl 6 rfl (sl 7 rfl sn)) en ?_
  refine tri_seq ?_
  refine tri_reg mixed hcx ?_ _ _
  refine mv rfl ?_
  refine mv rfl ?_
  refine xt rfl (run_f64from _) ?_
  refine fml rfl rfl ?_
  refine asg rfl ?_
  refine ⟨by kernel_rfl, ?_⟩
  refine nx (sl 4 rfl sn) en ?_
  refine tri_ret ?_
  repeat (first | refine pn_thenr ?_ | refine pn_blkr ?_)
  exact ret1 hcx rfl (rv_tmp rfl) (f_eq ((one_mul_o (by omega) (by omega) h1 h2).trans (by rw [hX]))) en

theorem c_ldexp_inf {q : Nat} (h1 : 4503599627370496 ≤ q) (h2 : q < 9007199254740992) {e : Int} (he : 971 < e) (he2 : e ≤ 100000) : Fn Try.prog 108 [T.c (.float .f64 (wd 1075 q)), T.c (.int .i64 e)] [] [] [] (T.F (some 9218868437227405312)) := by
  refine fn_of Try.func108 rfl (by show 2 ≤ 63; decide) fun cx hcx => ?_
  refine tri_sub (sl 0 rfl (sl 1 rfl sn)) en ?_
  have iw : BLt (wd 1075 q) := ⟨by unfold wd; omega⟩
  have hw0 : (wd 1075 q : Nat) = 4836865999795912704 + q := by unfold wd; omega
  have hb := wd_nn (E := 1075) (q := q) (by omega) h2
  have hlt : oLt (fo (wd 1075 q)) (fo 0) = false := (by rw [wd_fo (by omega) h2, show fo 0 = some 0 by decide]; show decide (Fl.key (wd 1075 q) < Fl.key 0) = false; rw [wd_key (by omega) h2, show Fl.key 0 = 0 by decide]; exact decide_eq_false (by omega))
  refine tri_seq ?_
  refine tri_reg mixed hcx ?_ _ _
  refine asg rfl ?_
  refine ⟨by kernel_rfl, ?_⟩
  refine nx (sl 0 rfl (sl 1 rfl sn)) en ?_
  refine tri_seq ?_
  refine tri_block ?_
  refine tri_seq ?_
  refine tri_reg mixed hcx ?_ _ _
  refine mv rfl ?_
  refine feq rfl rfl (wd_z (by omega) h1 h2) ?_
  refine asg rfl ?_
  refine ⟨by kernel_rfl, ?_⟩
  refine nx (sl 0 rfl (sl 1 rfl (sl 8 rfl sn))) en ?_
  refine tri_false rfl rfl ?_
  refine tri_seq ?_
  refine tri_reg mixed hcx ?_ _ _
  refine mv rfl ?_
  refine caf rfl (h := (fn_out c_IsInf0 (.of (by rw [wd_i (by omega) h2])))) (hn := ?_)
  refine mv rfl ?_
  refine mv rfl ?_ (hg := gd1)
  refine caf rfl (h := (fn_out c_IsNaN (.of (by rw [wd_self (by omega) h2])))) (hn := ?_) (hg := gd1)
  refine pk rfl rfl ?_
  refine asg rfl ?_
  refine ⟨by kernel_rfl, ?_⟩
  refine nx (sl 0 rfl (sl 1 rfl (sl 12 rfl sn))) en ?_
  refine tri_false rfl rfl ?_
  refine tri_skip ?_
  refine pn_blk ?_
  refine nx (sl 0 rfl (sl 1 rfl sn)) en ?_
  refine tri_seq ?_
  refine tri_reg mixed hcx ?_ _ _
  refine mv rfl ?_
  refine caf rfl (h := c_normalize h1 h2) (hn := ?_)
  refine mv rfl ?_
  refine ex rfl rfl ?_
  refine ex rfl rfl ?_
  refine asg rfl ?_
  refine asg rfl ?_
  refine ⟨by kernel_rfl, ?_⟩
  refine nx (sl 0 rfl (sl 1 rfl (sl 5 rfl sn))) en ?_
  refine tri_seq ?_
  refine tri_reg mixed hcx ?_ _ _
  refine mv rfl ?_
  refine mv rfl ?_
  refine ad (e) rfl rfl rfl (by omega) ?_
  refine asg rfl ?_
  refine ⟨by kernel_rfl, ?_⟩
  refine nx (sl 0 rfl (sl 1 rfl sn)) en ?_
  refine tri_seq ?_
  refine tri_reg mixed hcx ?_ _ _
  refine mv rfl ?_
  refine xt rfl (run_f64bits _) ?_
  refine asg rfl ?_
  refine ⟨by kernel_rfl, ?_⟩
  refine nx (sl 0 rfl (sl 1 rfl (sl 6 rfl sn))) en ?_
  refine tri_seq ?_
  refine tri_reg mixed hcx ?_ _ _
  refine mv rfl ?_
  refine mv rfl ?_
  refine shR (s := 52) (1075) rfl rfl rfl ⟨by omega, by omega, by decide⟩ ?_
  refine cvt (1075) rfl cvU64I rfl (by omega) ?_
  refine ban (1075 : Int) rfl rfl (by decide) ?_
  refine sb (52) rfl rfl rfl (by omega) ?_
  refine ad (e + 52) rfl rfl rfl (by omega) ?_
  refine asg rfl ?_
  refine ⟨by kernel_rfl, ?_⟩
  refine nx (sl 0 rfl (sl 1 rfl (sl 6 rfl sn))) en ?_
  refine tri_seq ?_
  refine tri_seq ?_
  refine tri_reg mixed hcx ?_ _ _
  refine mv rfl ?_
  refine clt rfl rfl (decide_eq_false (by omega)) ?_
  refine ⟨by kernel_rfl, ?_⟩
  refine nx (sl 0 rfl (sl 1 rfl (sl 6 rfl (sl 38 rfl sn)))) en ?_
  refine tri_false rfl rfl ?_
  refine tri_skip ?_
  refine nx (sl 0 rfl (sl 1 rfl (sl 6 rfl sn))) en ?_
  refine tri_seq ?_
  refine tri_seq ?_
  refine tri_reg mixed hcx ?_ _ _
  refine mv rfl ?_
  refine cgt rfl rfl (decide_eq_true (by omega)) ?_
  refine ⟨by kernel_rfl, ?_⟩
  refine nx (sl 0 rfl (sl 1 rfl (sl 6 rfl (sl 42 rfl sn)))) en ?_
  refine tri_true rfl rfl ?_
  refine tri_seq ?_
  refine tri_seq ?_
  refine tri_reg mixed hcx ?_ _ _
  refine mv rfl ?_
  refine flt rfl rfl hlt ?_
  refine ⟨by kernel_rfl, ?_⟩
  refine nx (sl 44 rfl sn) en ?_
  refine tri_false rfl rfl ?_
  refine tri_skip ?_
  refine nx sn en ?_
  refine tri_seq ?_
  refine tri_reg mixed hcx ?_ _ _
  refine ca rfl (h := c_InfP) (hn := ?_)
  refine asg rfl ?_
  refine ⟨by kernel_rfl, ?_⟩
  refine nx (sl 4 rfl sn) en ?_
  refine tri_ret ?_
  repeat (first | refine pn_thenr ?_ | refine pn_blkr ?_)
  exact ret1 hcx rfl (rv_tmp rfl) inf_F en

theorem c_Ldexp {q : Nat} (h1 : 4503599627370496 ≤ q) (h2 : q < 9007199254740992) {e : Int} (he : -1074 ≤ e) (he2 : e ≤ 971) : Fn Try.prog 91 [T.c (.float .f64 (wd 1075 q)), T.c (.int .i64 e)] [] [] [] (T.F (some (wd (e + 1075).toNat q))) := by
  refine fn_of Try.func91 rfl (by show 2 ≤ 11; decide) fun cx hcx => ?_
  refine tri_sub (sl 0 rfl (sl 1 rfl sn)) en ?_
  refine tri_seq ?_
  refine tri_reg mixed hcx ?_ _ _
  refine asg rfl ?_
  refine ⟨by kernel_rfl, ?_⟩
  refine nx (sl 0 rfl (sl 1 rfl sn)) en ?_
  refine tri_seq ?_
  refine tri_falsec ?_
  refine tri_skip ?_
  refine nx (sl 0 rfl (sl 1 rfl sn)) en ?_
  refine tri_seq ?_
  refine tri_reg mixed hcx ?_ _ _
  refine mv rfl ?_
  refine mv rfl ?_
  refine caf rfl (h := c_ldexp h1 h2 he he2) (hn := ?_)
  refine asg rfl ?_
  refine ⟨by kernel_rfl, ?_⟩
  refine nx (sl 4 rfl sn) en ?_
  refine tri_ret ?_
  repeat (first | refine pn_thenr ?_ | refine pn_blkr ?_)
  exact ret1 hcx rfl (rv_tmp rfl) (.refl _) en

theorem c_Ldexp_inf {q : Nat} (h1 : 4503599627370496 ≤ q) (h2 : q < 9007199254740992) {e : Int} (he : 971 < e) (he2 : e ≤ 100000) : Fn Try.prog 91 [T.c (.float .f64 (wd 1075 q)), T.c (.int .i64 e)] [] [] [] (T.F (some 9218868437227405312)) := by
  refine fn_of Try.func91 rfl (by show 2 ≤ 11; decide) fun cx hcx => ?_
  refine tri_sub (sl 0 rfl (sl 1 rfl sn)) en ?_
  refine tri_seq ?_
  refine tri_reg mixed hcx ?_ _ _
  refine asg rfl ?_
  refine ⟨by kernel_rfl, ?_⟩
  refine nx (sl 0 rfl (sl 1 rfl sn)) en ?_
  refine tri_seq ?_
  refine tri_falsec ?_
  refine tri_skip ?_
  refine nx (sl 0 rfl (sl 1 rfl sn)) en ?_
  refine tri_seq ?_
  refine tri_reg mixed hcx ?_ _ _
  refine mv rfl ?_
  refine mv rfl ?_
  refine caf rfl (h := c_ldexp_inf h1 h2 he he2) (hn := ?_)
  refine asg rfl ?_
  refine ⟨by kernel_rfl, ?_⟩
  refine nx (sl 4 rfl sn) en ?_
  refine tri_ret ?_
  repeat (first | refine pn_thenr ?_ | refine pn_blkr ?_)
  exact ret1 hcx rfl (rv_tmp rfl) (.refl _) en

theorem nat_Shl {N n k : Nat} (hN : 0 < N) (hk : k ≤ 8796093022208) (hn : n + nbits N ≤ 1048576) : Fn Try.prog 89 [T.L N k, T.c (.int .i64 (n : Int))] [] [] [] (T.tup [T.l cU (dig (N * 2 ^ n)), T.c (.int .i64 0)]) := by
  refine fn_of Try.func89 rfl (by show 2 ≤ 22; decide) fun cx hcx => ?_
  refine tri_sub (sl 0 rfl (sl 1 rfl sn)) en ?_
  have hb0 : 0 < nbits N := nbits_pos hN
  have hVl : lim (N * 2 ^ n) ≤ (dig N).length + n / 32 + 1 := shl_lim hN n
  refine tri_seq ?_
  refine tri_reg mixed hcx ?_ _ _
  refine asg rfl ?_
  refine asg rfl ?_
  refine ⟨by kernel_rfl, ?_⟩
  refine nx (sl 0 rfl (sl 1 rfl sn)) en ?_
  refine tri_seq ?_
  refine tri_seq ?_
  refine tri_reg mixed hcx ?_ _ _
  refine mv rfl ?_
  refine clt rfl rfl (decide_eq_false (by omega)) ?_
  refine ⟨by kernel_rfl, ?_⟩
  refine nx (sl 0 rfl (sl 1 rfl (sl 8 rfl sn))) en ?_
  refine tri_false rfl rfl ?_
  refine tri_skip ?_
  refine nx (sl 0 rfl (sl 1 rfl sn)) en ?_
  refine tri_seq ?_
  refine tri_seq ?_
  refine tri_reg mixed hcx ?_ _ _
  refine mv rfl ?_
  refine ca rfl (h := nat_Bits (by omega)) (hn := ?_)
  refine asg rfl ?_
  refine ⟨by kernel_rfl, ?_⟩
  refine nx (sl 0 rfl (sl 1 rfl (sl 6 rfl sn))) en ?_
  refine tri_seq ?_
  refine tri_reg mixed hcx ?_ _ _
  refine mv rfl ?_
  refine cgt rfl rfl (decide_eq_true (by omega)) ?_
  refine mv rfl ?_
  refine mv rfl ?_ (hg := gd1)
  refine mv rfl ?_ (hg := gd1)
  refine sb (1048576 - ((nbits N : Nat) : Int)) rfl rfl rfl (by omega) ?_ (hg := gd1)
  refine cgt rfl rfl (decide_eq_false (by omega)) ?_ (hg := gd1)
  refine pk rfl rfl ?_
  refine ⟨by kernel_rfl, ?_⟩
  refine nx (sl 0 rfl (sl 1 rfl (sl 18 rfl sn))) en ?_
  refine tri_false rfl rfl ?_
  refine tri_skip ?_
  refine nx (sl 0 rfl (sl 1 rfl sn)) en ?_
  refine tri_seq ?_
  refine tri_reg mixed hcx ?_ _ _
  refine mv rfl ?_
  refine mv rfl ?_
  refine can (e := 515) rfl (h := nat_shl hN hk (by omega)) (hn := ?_)
  refine asg rfl ?_
  refine asg rfl ?_
  refine ⟨by kernel_rfl, ?_⟩
  refine nx (sl 4 rfl (sl 5 rfl sn)) (el 515 rfl en) ?_
  refine tri_fz 515 rfl ?_
  refine tri_rdv 4 515 (lim (N * 2 ^ n)) rfl rfl (by rw [pad_length hVl]; exact hVl) ?_
  refine tri_as 4 (Z := T.l cU (dig (N * 2 ^ n))) rfl (.of (by rw [pad_take])) ?_
  refine tri_sub (sl 4 rfl (sl 5 rfl sn)) en ?_
  refine tri_ret ?_
  repeat (first | refine pn_thenr ?_ | refine pn_blkr ?_)
  exact ret2 hcx rfl (rv_tmp rfl) (rv_tmp rfl) (.refl _) en

theorem nat_Shl_long {N n k : Nat} (hN : 0 < N) (hk : k ≤ 8796093022208) (hn0 : n ≤ 1152921504606846976) (hn1 : nbits N ≤ 1152921504606846976) (hn : 1048576 < n + nbits N) : Fn Try.prog 89 [T.L N k, T.c (.int .i64 (n : Int))] [] [] [] (T.tup [T.c (.slice none 0 0), T.c (.int .i64 2)]) := by
  refine fn_of Try.func89 rfl (by show 2 ≤ 22; decide) fun cx hcx => ?_
  refine tri_sub (sl 0 rfl (sl 1 rfl sn)) en ?_
  have hb0 : 0 < nbits N := nbits_pos hN
  refine tri_seq ?_
  refine tri_reg mixed hcx ?_ _ _
  refine asg rfl ?_
  refine asg rfl ?_
  refine ⟨by kernel_rfl, ?_⟩
  refine nx (sl 0 rfl (sl 1 rfl sn)) en ?_
  refine tri_seq ?_
  refine tri_seq ?_
  refine tri_reg mixed hcx ?_ _ _
  refine mv rfl ?_
  refine clt rfl rfl (decide_eq_false (by omega)) ?_
  refine ⟨by kernel_rfl, ?_⟩
  refine nx (sl 0 rfl (sl 1 rfl (sl 8 rfl sn))) en ?_
  refine tri_false rfl rfl ?_
  refine tri_skip ?_
  refine nx (sl 0 rfl (sl 1 rfl sn)) en ?_
  refine tri_seq ?_
  refine tri_seq ?_
  refine tri_reg mixed hcx ?_ _ _
  refine mv rfl ?_
  refine ca rfl (h := nat_Bits (by omega)) (hn := ?_)
  refine asg rfl ?_
  refine ⟨by kernel_rfl, ?_⟩
  refine nx (sl 0 rfl (sl 1 rfl (sl 6 rfl sn))) en ?_
  refine tri_seq ?_
  refine tri_reg mixed hcx ?_ _ _
  refine mv rfl ?_
  refine cgt rfl rfl (decide_eq_true (by omega)) ?_
  refine mv rfl ?_
  refine mv rfl ?_ (hg := gd1)
  refine mv rfl ?_ (hg := gd1)
  refine sb (1048576 - ((nbits N : Nat) : Int)) rfl rfl rfl (by omega) ?_ (hg := gd1)
  refine cgt rfl rfl (decide_eq_true (by omega)) ?_ (hg := gd1)
  refine pk rfl rfl ?_
  refine ⟨by kernel_rfl, ?_⟩
  refine nx (sl 0 rfl (sl 1 rfl (sl 18 rfl sn))) en ?_
  refine tri_true rfl rfl ?_
  refine tri_seq ?_
  refine tri_reg mixed hcx ?_ _ _
  refine asg rfl ?_
  refine asg rfl ?_
  refine ⟨by kernel_rfl, ?_⟩
  refine nx (sl 4 rfl (sl 5 rfl sn)) en ?_
  refine tri_ret ?_
  repeat (first | refine pn_thenr ?_ | refine pn_blkr ?_)
  exact ret2 hcx rfl (rv_tmp rfl) (rv_tmp rfl) (.refl _) en
end Go.Proofs.Ytlmiadjogdfjkaa.V
