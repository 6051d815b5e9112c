/- Intervals: orders. -/
import Derived.Test.YtlmiadjogdfjkaaKL
set_option linter.unusedVariables false
set_option linter.unusedSimpArgs false
set_option maxRecDepth 100000
namespace Go.Proofs.Ytlmiadjogdfjkaa.V
open Go.RowKit Mt Nml
def cmS (a b c d : Option Nat) : Bool := if oLt b c = true ∨ oLt d a = true then true else oEq a b && oEq c d && oEq a c && !oInf 0 a
def cmN (a b c d : Option Nat) : Int := if oLt b c = true then -1 else if oLt d a = true then 1 else 0
theorem cm_lt {a b c d : Option Nat} (h : oLt b c = true) : cmN a b c d = -1 ∧ cmS a b c d = true := ⟨if_pos h, if_pos (.inl h)⟩
theorem cm_gt {a b c d : Option Nat} (h : oLt b c = false) (h2 : oLt d a = true) : cmN a b c d = 1 ∧ cmS a b c d = true := ⟨by unfold cmN; rw [if_neg (by rw [h]; decide), if_pos h2], if_pos (.inr h2)⟩
theorem cm_eq {a b c d : Option Nat} (h : oLt b c = false) (h2 : oLt d a = false) : cmN a b c d = 0 ∧ cmS a b c d = (oEq a b && oEq c d && oEq a c && !oInf 0 a) := ⟨by unfold cmN; rw [if_neg (by rw [h]; decide), if_neg (by rw [h2]; decide)], by unfold cmS; rw [if_neg (by rw [h, h2]; decide)]⟩
open Ieee in
theorem sub_self_z {x : Nat} (hx : x < 18446744073709551616) (hn : Fl.isN x = false) : oEq (oSub (some x) (some x)) (fo 0) = !oInf 0 (some x) := by
  show oEq (double.sub x x) (fo 0) = _
  by_cases h : Fl.rung x = 9218868437227405312
  · have h1 := inf0_t hx hn h
    rw [fo_s hn] at h1
    rw [h1]
    unfold Format.sub
    rw [Fl.read_inf h]
    cases Fl.sgn x <;> rfl
  · have h1 := inf0_f hx hn h
    rw [fo_s hn] at h1
    rw [h1]
    have hr : Fl.rung x < Fl.INF := by
      have : ¬ 9218868437227405312 < Fl.rung x := mt nan_iff.2 (by rw [hn]; decide)
      unfold Fl.INF; omega
    obtain ⟨m, e, h2, _⟩ := Fl.read_num hr
    unfold Format.sub
    rw [h2]
    have : (Datum.number (Fl.sgn x) m (-1074 + (e : Int))).sum (Datum.number (Fl.sgn x) m (-1074 + (e : Int))).opposite = some (.number false 0 (-1074 + (e : Int))) := by
      show some (Datum.number _ _ _) = _
      simp only [signed, Int.min_self, Int.sub_self]
      cases Fl.sgn x <;> simp <;> omega
    rw [this]
    show oEq (some (double.nearest false 0 (-1074 + (e : Int)))) (fo 0) = _
    unfold Format.nearest
    rw [if_pos rfl]
    decide
theorem sub_self_o {o : Option Nat} (h : ∃ b, b < 18446744073709551616 ∧ fo b = o) (hs : o.isSome = true) : oEq (oSub o o) (fo 0) = !oInf 0 o := by
  obtain ⟨b, hb, rfl⟩ := h
  rcases fo_cases hb with ⟨h1, e⟩ | ⟨h1, e, _⟩
  · rw [e] at hs; cases hs
  · rw [e]; exact sub_self_z hb h1
theorem eq_some {o p : Option Nat} (h : oEq o p = true) : o.isSome = true := by cases o <;> cases p <;> first | rfl | (cases h)

theorem iv_Cmp {a b c d : Option Nat} (h : oLe a b = true) (h2 : oLe c d = true) : Fn Try.prog 15 [T.st [T.F a, T.F b], T.st [T.F c, T.F d]] [] [] [] (T.tup [T.c (.int .i64 (cmN a b c d)), T.c (.bool (cmS a b c d)), T.c (.int .i64 0)]) := by
  refine fn_of Try.func15 rfl (by show 2 ≤ 51; decide) fun cx hcx => ?_
  refine tri_sub (sl 0 rfl (sl 1 rfl sn)) en ?_
  refine tri_seq ?_
  refine tri_reg mixed hcx ?_ _ _
  refine bxs 10 rfl ?_
  refine bxs 11 rfl ?_
  refine asg rfl ?_
  refine asg rfl ?_
  refine asg rfl ?_
  refine ⟨by kernel_rfl, ?_⟩
  refine nx (sl 2 rfl (sl 3 rfl sn)) (el 10 rfl (el 11 rfl en)) ?_
  refine tri_seq ?_
  refine tri_block ?_
  refine tri_seq ?_
  refine tri_reg mixed hcx ?_ _ _
  refine ld rfl rfl tyV rfl ?_
  refine ld rfl rfl tyV rfl ?_
  refine caf rfl (h := iv_both_t h h2) (hn := ?_)
  refine nt rfl _ rfl ?_
  refine asg rfl ?_
  refine ⟨by kernel_rfl, ?_⟩
  refine nx (sl 2 rfl (sl 3 rfl (sl 8 rfl sn))) (el 10 rfl (el 11 rfl en)) ?_
  refine tri_false rfl rfl ?_
  refine tri_seq ?_
  rcases Bool.eq_false_or_eq_true (oLt b c) with h6 | h6; rotate_left; rcases Bool.eq_false_or_eq_true (oLt d a) with h7 | h7; rotate_left
  · have hc := @cm_eq a b c d h6 h7
    refine tri_reg mixed hcx ?_ _ _
    refine fa rfl fHi 1 ?_
    refine ld rfl rfl tyF rfl ?_
    refine fa rfl fLo 0 ?_
    refine ld rfl rfl tyF rfl ?_
    refine flt rfl rfl h6 ?_
    refine asg rfl ?_
    refine ⟨by kernel_rfl, ?_⟩
    refine nx (sl 2 rfl (sl 3 rfl (sl 13 rfl sn))) (el 10 rfl (el 11 rfl en)) ?_
    refine tri_false rfl rfl ?_
    refine tri_seq ?_
    refine tri_reg mixed hcx ?_ _ _
    refine fa rfl fLo 0 ?_
    refine ld rfl rfl tyF rfl ?_
    refine fa rfl fHi 1 ?_
    refine ld rfl rfl tyF rfl ?_
    refine fgt rfl rfl h7 ?_
    refine asg rfl ?_
    refine ⟨by kernel_rfl, ?_⟩
    refine nx (sl 2 rfl (sl 3 rfl (sl 19 rfl sn))) (el 10 rfl (el 11 rfl en)) ?_
    refine tri_false rfl rfl ?_
    refine tri_skip ?_
    refine pn_blk ?_
    refine nx (sl 2 rfl (sl 3 rfl sn)) (el 10 rfl (el 11 rfl en)) ?_
    refine tri_seq ?_
    rcases Bool.eq_false_or_eq_true (oEq a b) with h3 | h3; rcases Bool.eq_false_or_eq_true (oEq c d) with h4 | h4; rcases Bool.eq_false_or_eq_true (oEq a c) with h5 | h5
    · refine tri_reg mixed hcx ?_ _ _
      refine fa rfl fLo 0 ?_
      refine ld rfl rfl tyF rfl ?_
      refine fa rfl fHi 1 ?_
      refine ld rfl rfl tyF rfl ?_
      refine feq rfl rfl h3 ?_
      refine mv rfl ?_
      refine fa rfl fLo 0 ?_ (hg := gd1)
      refine ld rfl rfl tyF rfl ?_ (hg := gd1)
      refine fa rfl fHi 1 ?_ (hg := gd1)
      refine ld rfl rfl tyF rfl ?_ (hg := gd1)
      refine feq rfl rfl h4 ?_ (hg := gd1)
      refine pk rfl rfl ?_
      refine mv rfl ?_
      refine fa rfl fLo 0 ?_ (hg := gd1)
      refine ld rfl rfl tyF rfl ?_ (hg := gd1)
      refine fa rfl fLo 0 ?_ (hg := gd1)
      refine ld rfl rfl tyF rfl ?_ (hg := gd1)
      refine feq rfl rfl h5 ?_ (hg := gd1)
      refine pk rfl rfl ?_
      refine mv rfl ?_
      refine fa rfl fLo 0 ?_ (hg := gd1)
      refine ld rfl rfl tyF rfl ?_ (hg := gd1)
      refine caf rfl (h := c_IsInf0) (hn := ?_) (hg := gd1)
      refine nt rfl _ rfl ?_ (hg := gd1)
      refine pk rfl rfl ?_
      refine asg rfl ?_
      refine ⟨by kernel_rfl, ?_⟩
      refine nx (sl 7 rfl sn) (el 10 rfl (el 11 rfl en)) ?_
      refine tri_seq ?_
      refine tri_reg mixed hcx ?_ _ _
      refine mv rfl ?_
      refine asg rfl ?_
      refine asg rfl ?_
      refine asg rfl ?_
      refine ⟨by kernel_rfl, ?_⟩
      refine nx (sl 4 rfl (sl 5 rfl (sl 6 rfl sn))) (el 10 rfl (el 11 rfl en)) ?_
      refine tri_ret ?_
      repeat (first | refine pn_thenr ?_ | refine pn_blkr ?_)
      exact ret3 hcx rfl (rv_tmp rfl) (rv_tmp rfl) (rv_tmp rfl) (tup_le ⟨ci hc.1.symm, .of (congrArg (fun q => T.c (Value.bool q)) (Eq.symm (by rw [hc.2, h3, h4, h5]; rfl))), .refl _, trivial⟩) en
    · refine tri_reg mixed hcx ?_ _ _
      refine fa rfl fLo 0 ?_
      refine ld rfl rfl tyF rfl ?_
      refine fa rfl fHi 1 ?_
      refine ld rfl rfl tyF rfl ?_
      refine feq rfl rfl h3 ?_
      refine mv rfl ?_
      refine fa rfl fLo 0 ?_ (hg := gd1)
      refine ld rfl rfl tyF rfl ?_ (hg := gd1)
      refine fa rfl fHi 1 ?_ (hg := gd1)
      refine ld rfl rfl tyF rfl ?_ (hg := gd1)
      refine feq rfl rfl h4 ?_ (hg := gd1)
      refine pk rfl rfl ?_
      refine mv rfl ?_
      refine fa rfl fLo 0 ?_ (hg := gd1)
      refine ld rfl rfl tyF rfl ?_ (hg := gd1)
      refine fa rfl fLo 0 ?_ (hg := gd1)
      refine ld rfl rfl tyF rfl ?_ (hg := gd1)
      refine feq rfl rfl h5 ?_ (hg := gd1)
      refine pk rfl rfl ?_
      refine mv rfl ?_
      refine j_off rfl rfl rfl rfl ?_
      refine j_off rfl rfl rfl rfl ?_
      refine j_off rfl rfl rfl rfl ?_
      refine j_off rfl rfl rfl rfl ?_
      refine pk rfl rfl ?_
      refine asg rfl ?_
      refine ⟨by kernel_rfl, ?_⟩
      refine nx (sl 7 rfl sn) (el 10 rfl (el 11 rfl en)) ?_
      refine tri_seq ?_
      refine tri_reg mixed hcx ?_ _ _
      refine mv rfl ?_
      refine asg rfl ?_
      refine asg rfl ?_
      refine asg rfl ?_
      refine ⟨by kernel_rfl, ?_⟩
      refine nx (sl 4 rfl (sl 5 rfl (sl 6 rfl sn))) (el 10 rfl (el 11 rfl en)) ?_
      refine tri_ret ?_
      repeat (first | refine pn_thenr ?_ | refine pn_blkr ?_)
      exact ret3 hcx rfl (rv_tmp rfl) (rv_tmp rfl) (rv_tmp rfl) (tup_le ⟨ci hc.1.symm, .of (congrArg (fun q => T.c (Value.bool q)) (Eq.symm (by rw [hc.2, h3, h4, h5]; rfl))), .refl _, trivial⟩) en
    · refine tri_reg mixed hcx ?_ _ _
      refine fa rfl fLo 0 ?_
      refine ld rfl rfl tyF rfl ?_
      refine fa rfl fHi 1 ?_
      refine ld rfl rfl tyF rfl ?_
      refine feq rfl rfl h3 ?_
      refine mv rfl ?_
      refine fa rfl fLo 0 ?_ (hg := gd1)
      refine ld rfl rfl tyF rfl ?_ (hg := gd1)
      refine fa rfl fHi 1 ?_ (hg := gd1)
      refine ld rfl rfl tyF rfl ?_ (hg := gd1)
      refine feq rfl rfl h4 ?_ (hg := gd1)
      refine pk rfl rfl ?_
      refine mv rfl ?_
      refine j_off rfl rfl rfl rfl ?_
      refine j_off rfl rfl rfl rfl ?_
      refine j_off rfl rfl rfl rfl ?_
      refine j_off rfl rfl rfl rfl ?_
      refine j_off rfl rfl rfl rfl ?_
      refine pk rfl rfl ?_
      refine mv rfl ?_
      refine j_off rfl rfl rfl rfl ?_
      refine j_off rfl rfl rfl rfl ?_
      refine j_off rfl rfl rfl rfl ?_
      refine j_off rfl rfl rfl rfl ?_
      refine pk rfl rfl ?_
      refine asg rfl ?_
      refine ⟨by kernel_rfl, ?_⟩
      refine nx (sl 7 rfl sn) (el 10 rfl (el 11 rfl en)) ?_
      refine tri_seq ?_
      refine tri_reg mixed hcx ?_ _ _
      refine mv rfl ?_
      refine asg rfl ?_
      refine asg rfl ?_
      refine asg rfl ?_
      refine ⟨by kernel_rfl, ?_⟩
      refine nx (sl 4 rfl (sl 5 rfl (sl 6 rfl sn))) (el 10 rfl (el 11 rfl en)) ?_
      refine tri_ret ?_
      repeat (first | refine pn_thenr ?_ | refine pn_blkr ?_)
      exact ret3 hcx rfl (rv_tmp rfl) (rv_tmp rfl) (rv_tmp rfl) (tup_le ⟨ci hc.1.symm, .of (congrArg (fun q => T.c (Value.bool q)) (Eq.symm (by rw [hc.2, h3, h4]; rfl))), .refl _, trivial⟩) en
    · refine tri_reg mixed hcx ?_ _ _
      refine fa rfl fLo 0 ?_
      refine ld rfl rfl tyF rfl ?_
      refine fa rfl fHi 1 ?_
      refine ld rfl rfl tyF rfl ?_
      refine feq rfl rfl h3 ?_
      refine mv rfl ?_
      refine j_off rfl rfl rfl rfl ?_
      refine j_off rfl rfl rfl rfl ?_
      refine j_off rfl rfl rfl rfl ?_
      refine j_off rfl rfl rfl rfl ?_
      refine j_off rfl rfl rfl rfl ?_
      refine pk rfl rfl ?_
      refine mv rfl ?_
      refine j_off rfl rfl rfl rfl ?_
      refine j_off rfl rfl rfl rfl ?_
      refine j_off rfl rfl rfl rfl ?_
      refine j_off rfl rfl rfl rfl ?_
      refine j_off rfl rfl rfl rfl ?_
      refine pk rfl rfl ?_
      refine mv rfl ?_
      refine j_off rfl rfl rfl rfl ?_
      refine j_off rfl rfl rfl rfl ?_
      refine j_off rfl rfl rfl rfl ?_
      refine j_off rfl rfl rfl rfl ?_
      refine pk rfl rfl ?_
      refine asg rfl ?_
      refine ⟨by kernel_rfl, ?_⟩
      refine nx (sl 7 rfl sn) (el 10 rfl (el 11 rfl en)) ?_
      refine tri_seq ?_
      refine tri_reg mixed hcx ?_ _ _
      refine mv rfl ?_
      refine asg rfl ?_
      refine asg rfl ?_
      refine asg rfl ?_
      refine ⟨by kernel_rfl, ?_⟩
      refine nx (sl 4 rfl (sl 5 rfl (sl 6 rfl sn))) (el 10 rfl (el 11 rfl en)) ?_
      refine tri_ret ?_
      repeat (first | refine pn_thenr ?_ | refine pn_blkr ?_)
      exact ret3 hcx rfl (rv_tmp rfl) (rv_tmp rfl) (rv_tmp rfl) (tup_le ⟨ci hc.1.symm, .of (congrArg (fun q => T.c (Value.bool q)) (Eq.symm (by rw [hc.2, h3]; rfl))), .refl _, trivial⟩) en
  · have hc := @cm_lt a b c d h6
    refine tri_reg mixed hcx ?_ _ _
    refine fa rfl fHi 1 ?_
    refine ld rfl rfl tyF rfl ?_
    refine fa rfl fLo 0 ?_
    refine ld rfl rfl tyF rfl ?_
    refine flt rfl rfl h6 ?_
    refine asg rfl ?_
    refine ⟨by kernel_rfl, ?_⟩
    refine nx (sl 2 rfl (sl 3 rfl (sl 13 rfl sn))) (el 10 rfl (el 11 rfl en)) ?_
    refine tri_true rfl rfl ?_
    refine tri_seq ?_
    refine tri_reg mixed hcx ?_ _ _
    refine asg rfl ?_
    refine asg rfl ?_
    refine asg rfl ?_
    refine ⟨by kernel_rfl, ?_⟩
    refine nx (sl 4 rfl (sl 5 rfl (sl 6 rfl sn))) (el 10 rfl (el 11 rfl en)) ?_
    refine tri_ret ?_
    repeat (first | refine pn_thenr ?_ | refine pn_blkr ?_)
    exact ret3 hcx rfl (rv_tmp rfl) (rv_tmp rfl) (rv_tmp rfl) (tup_le ⟨ci hc.1.symm, .of (congrArg (fun q => T.c (Value.bool q)) (Eq.symm (hc.2))), .refl _, trivial⟩) en
  · have hc := @cm_gt a b c d h6 h7
    refine tri_reg mixed hcx ?_ _ _
    refine fa rfl fHi 1 ?_
    refine ld rfl rfl tyF rfl ?_
    refine fa rfl fLo 0 ?_
    refine ld rfl rfl tyF rfl ?_
    refine flt rfl rfl h6 ?_
    refine asg rfl ?_
    refine ⟨by kernel_rfl, ?_⟩
    refine nx (sl 2 rfl (sl 3 rfl (sl 13 rfl sn))) (el 10 rfl (el 11 rfl en)) ?_
    refine tri_false rfl rfl ?_
    refine tri_seq ?_
    refine tri_reg mixed hcx ?_ _ _
    refine fa rfl fLo 0 ?_
    refine ld rfl rfl tyF rfl ?_
    refine fa rfl fHi 1 ?_
    refine ld rfl rfl tyF rfl ?_
    refine fgt rfl rfl h7 ?_
    refine asg rfl ?_
    refine ⟨by kernel_rfl, ?_⟩
    refine nx (sl 2 rfl (sl 3 rfl (sl 19 rfl sn))) (el 10 rfl (el 11 rfl en)) ?_
    refine tri_true rfl rfl ?_
    refine tri_seq ?_
    refine tri_reg mixed hcx ?_ _ _
    refine asg rfl ?_
    refine asg rfl ?_
    refine asg rfl ?_
    refine ⟨by kernel_rfl, ?_⟩
    refine nx (sl 4 rfl (sl 5 rfl (sl 6 rfl sn))) (el 10 rfl (el 11 rfl en)) ?_
    refine tri_ret ?_
    repeat (first | refine pn_thenr ?_ | refine pn_blkr ?_)
    exact ret3 hcx rfl (rv_tmp rfl) (rv_tmp rfl) (rv_tmp rfl) (tup_le ⟨ci hc.1.symm, .of (congrArg (fun q => T.c (Value.bool q)) (Eq.symm (hc.2))), .refl _, trivial⟩) en

theorem iv_Cmp_no {a b c d : Option Nat} (h : oLe a b = false ∨ oLe c d = false) : Fn Try.prog 15 [T.st [T.F a, T.F b], T.st [T.F c, T.F d]] [] [] [] (T.tup [T.c (.int .i64 (0)), T.c (.bool (false)), T.c (.int .i64 90)]) := by
  refine fn_of Try.func15 rfl (by show 2 ≤ 51; decide) fun cx hcx => ?_
  refine tri_sub (sl 0 rfl (sl 1 rfl sn)) en ?_
  refine tri_seq ?_
  refine tri_reg mixed hcx ?_ _ _
  refine bxs 10 rfl ?_
  refine bxs 11 rfl ?_
  refine asg rfl ?_
  refine asg rfl ?_
  refine asg rfl ?_
  refine ⟨by kernel_rfl, ?_⟩
  refine nx (sl 2 rfl (sl 3 rfl sn)) (el 10 rfl (el 11 rfl en)) ?_
  refine tri_seq ?_
  refine tri_block ?_
  refine tri_seq ?_
  refine tri_reg mixed hcx ?_ _ _
  refine ld rfl rfl tyV rfl ?_
  refine ld rfl rfl tyV rfl ?_
  refine caf rfl (h := iv_both_f h) (hn := ?_)
  refine nt rfl _ rfl ?_
  refine asg rfl ?_
  refine ⟨by kernel_rfl, ?_⟩
  refine nx (sl 2 rfl (sl 3 rfl (sl 8 rfl sn))) (el 10 rfl (el 11 rfl en)) ?_
  refine tri_true rfl rfl ?_
  refine tri_seq ?_
  refine tri_reg mixed hcx ?_ _ _
  refine asg rfl ?_
  refine asg rfl ?_
  refine asg rfl ?_
  refine ⟨by kernel_rfl, ?_⟩
  refine nx (sl 4 rfl (sl 5 rfl (sl 6 rfl sn))) (el 10 rfl (el 11 rfl en)) ?_
  refine tri_ret ?_
  repeat (first | refine pn_thenr ?_ | refine pn_blkr ?_)
  exact ret3 hcx rfl (rv_tmp rfl) (rv_tmp rfl) (rv_tmp rfl) (.refl _) en

end Go.Proofs.Ytlmiadjogdfjkaa.V
