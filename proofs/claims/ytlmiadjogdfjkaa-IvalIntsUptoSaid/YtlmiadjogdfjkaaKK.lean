/- Intervals: sums. -/
import Derived.Test.YtlmiadjogdfjkaaKJ
set_option linter.unusedVariables false
set_option linter.unusedSimpArgs false
set_option maxRecDepth 100000
namespace Go.Proofs.Ytlmiadjogdfjkaa.V
open Go.RowKit Mt Nml
theorem inf_low : (T.c (.float .f64 18442240474082181120)).le (T.F (oLow none)) := fun β u v k => ⟨_, ⟨by decide, by decide⟩, k⟩
theorem inf_high : (T.c (.float .f64 9218868437227405312)).le (T.F (oHigh none)) := fun β u v k => ⟨_, ⟨by decide, by decide⟩, k⟩
theorem f_eq {o p : Option Nat} (h : o = p) : (T.F o).le (T.F p) := .of (by rw [h])
theorem bb_t {p : Bool} (h : p = true) : T.c (.bool p) = T.c (.bool true) := by rw [h]

theorem c_InfP  : Fn Try.prog 61 [T.c (.int .i64 1)] [] [] [] (T.c (.float .f64 9218868437227405312)) := by
  refine fn_of Try.func61 rfl (by show 1 ≤ 8; decide) fun cx hcx => ?_
  refine tri_sub (sl 0 rfl sn) en ?_
  refine tri_seq ?_
  refine tri_reg mixed hcx ?_ _ _
  refine asg rfl ?_
  refine ⟨by kernel_rfl, ?_⟩
  refine nx (sl 0 rfl sn) en ?_
  refine tri_seq ?_
  refine tri_reg mixed hcx ?_ _ _
  refine asg rfl ?_
  refine ⟨by kernel_rfl, ?_⟩
  refine nx (sl 0 rfl sn) en ?_
  refine tri_seq ?_
  refine tri_seq ?_
  refine tri_reg mixed hcx ?_ _ _
  refine mv rfl ?_
  refine cge rfl rfl (decide_eq_true (by omega)) ?_
  refine ⟨by kernel_rfl, ?_⟩
  refine nx (sl 5 rfl sn) en ?_
  refine tri_true rfl rfl ?_
  refine tri_reg mixed hcx ?_ _ _
  refine asg rfl ?_
  refine ⟨by kernel_rfl, ?_⟩
  refine nx (sl 3 rfl sn) en ?_
  refine tri_seq ?_
  refine tri_reg mixed hcx ?_ _ _
  refine mv rfl ?_
  refine xt rfl (run_f64from _) ?_
  refine asg rfl ?_
  refine ⟨by kernel_rfl, ?_⟩
  refine nx (sl 2 rfl sn) en ?_
  refine tri_ret ?_
  repeat (first | refine pn_thenr ?_ | refine pn_blkr ?_)
  exact ret1 hcx rfl (rv_tmp rfl) (.refl _) en

theorem c_InfM  : Fn Try.prog 61 [T.c (.int .i64 (-1))] [] [] [] (T.c (.float .f64 18442240474082181120)) := by
  refine fn_of Try.func61 rfl (by show 1 ≤ 8; decide) fun cx hcx => ?_
  refine tri_sub (sl 0 rfl sn) en ?_
  refine tri_seq ?_
  refine tri_reg mixed hcx ?_ _ _
  refine asg rfl ?_
  refine ⟨by kernel_rfl, ?_⟩
  refine nx (sl 0 rfl sn) en ?_
  refine tri_seq ?_
  refine tri_reg mixed hcx ?_ _ _
  refine asg rfl ?_
  refine ⟨by kernel_rfl, ?_⟩
  refine nx (sl 0 rfl sn) en ?_
  refine tri_seq ?_
  refine tri_seq ?_
  refine tri_reg mixed hcx ?_ _ _
  refine mv rfl ?_
  refine cge rfl rfl (decide_eq_false (by omega)) ?_
  refine ⟨by kernel_rfl, ?_⟩
  refine nx (sl 5 rfl sn) en ?_
  refine tri_false rfl rfl ?_
  refine tri_reg mixed hcx ?_ _ _
  refine asg rfl ?_
  refine ⟨by kernel_rfl, ?_⟩
  refine nx (sl 3 rfl sn) en ?_
  refine tri_seq ?_
  refine tri_reg mixed hcx ?_ _ _
  refine mv rfl ?_
  refine xt rfl (run_f64from _) ?_
  refine asg rfl ?_
  refine ⟨by kernel_rfl, ?_⟩
  refine nx (sl 2 rfl sn) en ?_
  refine tri_ret ?_
  repeat (first | refine pn_thenr ?_ | refine pn_blkr ?_)
  exact ret1 hcx rfl (rv_tmp rfl) (.refl _) en

theorem iv_low {o : Option Nat} : Fn Try.prog 33 [T.F o] [] [] [] (T.F (oLow o)) := by
  refine fn_of Try.func33 rfl (by show 1 ≤ 9; decide) fun cx hcx => ?_
  refine tri_sub (sl 0 rfl sn) en ?_
  refine tri_seq ?_
  refine tri_reg mixed hcx ?_ _ _
  refine asg rfl ?_
  refine ⟨by kernel_rfl, ?_⟩
  refine nx (sl 0 rfl sn) en ?_
  refine tri_seq ?_
  refine tri_seq ?_
  rcases o with _ | b
  · refine tri_reg mixed hcx ?_ _ _
    refine mv rfl ?_
    refine mv rfl ?_
    refine fne rfl rfl (show _ = true from rfl) ?_
    refine ⟨by kernel_rfl, ?_⟩
    refine nx (sl 0 rfl (sl 5 rfl sn)) en ?_
    refine tri_true rfl rfl ?_
    refine tri_seq ?_
    refine tri_reg mixed hcx ?_ _ _
    refine ca rfl (h := c_InfM) (hn := ?_)
    refine asg rfl ?_
    refine ⟨by kernel_rfl, ?_⟩
    refine nx (sl 2 rfl sn) en ?_
    refine tri_ret ?_
    repeat (first | refine pn_thenr ?_ | refine pn_blkr ?_)
    exact ret1 hcx rfl (rv_tmp rfl) inf_low en
  · refine tri_reg mixed hcx ?_ _ _
    refine mv rfl ?_
    refine mv rfl ?_
    refine fne rfl rfl (show _ = false from by simp [oEq]) ?_
    refine ⟨by kernel_rfl, ?_⟩
    refine nx (sl 0 rfl (sl 5 rfl sn)) en ?_
    refine tri_false rfl rfl ?_
    refine tri_skip ?_
    refine nx (sl 0 rfl sn) en ?_
    refine tri_seq ?_
    refine tri_reg mixed hcx ?_ _ _
    refine mv rfl ?_
    refine caf rfl (h := iv_Down) (hn := ?_)
    refine asg rfl ?_
    refine ⟨by kernel_rfl, ?_⟩
    refine nx (sl 2 rfl sn) en ?_
    refine tri_ret ?_
    repeat (first | refine pn_thenr ?_ | refine pn_blkr ?_)
    exact ret1 hcx rfl (rv_tmp rfl) (.refl _) en

theorem iv_high {o : Option Nat} : Fn Try.prog 34 [T.F o] [] [] [] (T.F (oHigh o)) := by
  refine fn_of Try.func34 rfl (by show 1 ≤ 9; decide) fun cx hcx => ?_
  refine tri_sub (sl 0 rfl sn) en ?_
  refine tri_seq ?_
  refine tri_reg mixed hcx ?_ _ _
  refine asg rfl ?_
  refine ⟨by kernel_rfl, ?_⟩
  refine nx (sl 0 rfl sn) en ?_
  refine tri_seq ?_
  refine tri_seq ?_
  rcases o with _ | b
  · refine tri_reg mixed hcx ?_ _ _
    refine mv rfl ?_
    refine mv rfl ?_
    refine fne rfl rfl (show _ = true from rfl) ?_
    refine ⟨by kernel_rfl, ?_⟩
    refine nx (sl 0 rfl (sl 5 rfl sn)) en ?_
    refine tri_true rfl rfl ?_
    refine tri_seq ?_
    refine tri_reg mixed hcx ?_ _ _
    refine ca rfl (h := c_InfP) (hn := ?_)
    refine asg rfl ?_
    refine ⟨by kernel_rfl, ?_⟩
    refine nx (sl 2 rfl sn) en ?_
    refine tri_ret ?_
    repeat (first | refine pn_thenr ?_ | refine pn_blkr ?_)
    exact ret1 hcx rfl (rv_tmp rfl) inf_high en
  · refine tri_reg mixed hcx ?_ _ _
    refine mv rfl ?_
    refine mv rfl ?_
    refine fne rfl rfl (show _ = false from by simp [oEq]) ?_
    refine ⟨by kernel_rfl, ?_⟩
    refine nx (sl 0 rfl (sl 5 rfl sn)) en ?_
    refine tri_false rfl rfl ?_
    refine tri_skip ?_
    refine nx (sl 0 rfl sn) en ?_
    refine tri_seq ?_
    refine tri_reg mixed hcx ?_ _ _
    refine mv rfl ?_
    refine caf rfl (h := iv_Up) (hn := ?_)
    refine asg rfl ?_
    refine ⟨by kernel_rfl, ?_⟩
    refine nx (sl 2 rfl sn) en ?_
    refine tri_ret ?_
    repeat (first | refine pn_thenr ?_ | refine pn_blkr ?_)
    exact ret1 hcx rfl (rv_tmp rfl) (.refl _) en

theorem iv_Valid_t {a b : Option Nat} (h : oLe a b = true) : Fn Try.prog 36 [T.st [T.F a, T.F b]] [] [] [] (T.c (.int .i64 0)) := by
  refine fn_of Try.func36 rfl (by show 1 ≤ 8; decide) fun cx hcx => ?_
  refine tri_sub (sl 0 rfl sn) en ?_
  refine tri_seq ?_
  refine tri_reg mixed hcx ?_ _ _
  refine bxs 10 rfl ?_
  refine asg rfl ?_
  refine ⟨by kernel_rfl, ?_⟩
  refine nx (sl 1 rfl sn) (el 10 rfl en) ?_
  refine tri_seq ?_
  refine tri_seq ?_
  refine tri_reg mixed hcx ?_ _ _
  refine fa rfl fLo 0 ?_
  refine ld rfl rfl tyF rfl ?_
  refine fa rfl fHi 1 ?_
  refine ld rfl rfl tyF rfl ?_
  refine fle rfl rfl h ?_
  refine ⟨by kernel_rfl, ?_⟩
  refine nx (sl 7 rfl sn) (el 10 rfl en) ?_
  refine tri_true rfl rfl ?_
  refine tri_seq ?_
  refine tri_reg mixed hcx ?_ _ _
  refine asg rfl ?_
  refine ⟨by kernel_rfl, ?_⟩
  refine nx (sl 2 rfl sn) (el 10 rfl en) ?_
  refine tri_ret ?_
  repeat (first | refine pn_thenr ?_ | refine pn_blkr ?_)
  exact ret1 hcx rfl (rv_tmp rfl) (.refl _) en

theorem iv_Valid_f {a b : Option Nat} (h : oLe a b = false) : Fn Try.prog 36 [T.st [T.F a, T.F b]] [] [] [] (T.c (.int .i64 90)) := by
  refine fn_of Try.func36 rfl (by show 1 ≤ 8; decide) fun cx hcx => ?_
  refine tri_sub (sl 0 rfl sn) en ?_
  refine tri_seq ?_
  refine tri_reg mixed hcx ?_ _ _
  refine bxs 10 rfl ?_
  refine asg rfl ?_
  refine ⟨by kernel_rfl, ?_⟩
  refine nx (sl 1 rfl sn) (el 10 rfl en) ?_
  refine tri_seq ?_
  refine tri_seq ?_
  refine tri_reg mixed hcx ?_ _ _
  refine fa rfl fLo 0 ?_
  refine ld rfl rfl tyF rfl ?_
  refine fa rfl fHi 1 ?_
  refine ld rfl rfl tyF rfl ?_
  refine fle rfl rfl h ?_
  refine ⟨by kernel_rfl, ?_⟩
  refine nx (sl 7 rfl sn) (el 10 rfl en) ?_
  refine tri_false rfl rfl ?_
  refine tri_skip ?_
  refine nx sn (el 10 rfl en) ?_
  refine tri_seq ?_
  refine tri_reg mixed hcx ?_ _ _
  refine asg rfl ?_
  refine ⟨by kernel_rfl, ?_⟩
  refine nx (sl 2 rfl sn) (el 10 rfl en) ?_
  refine tri_ret ?_
  repeat (first | refine pn_thenr ?_ | refine pn_blkr ?_)
  exact ret1 hcx rfl (rv_tmp rfl) (.refl _) en

theorem r9_Valid {a b : Option Nat} {q : Bool} (h : oLe a b = q) : Fn Try.prog 8 [T.st [T.F a, T.F b]] [] [] [] (T.c (.bool q)) := by
  refine fn_of Try.func8 rfl (by show 1 ≤ 8; decide) fun cx hcx => ?_
  refine tri_sub (sl 0 rfl sn) en ?_
  refine tri_seq ?_
  refine tri_reg mixed hcx ?_ _ _
  refine bxs 10 rfl ?_
  refine asg rfl ?_
  refine ⟨by kernel_rfl, ?_⟩
  refine nx (sl 1 rfl sn) (el 10 rfl en) ?_
  refine tri_seq ?_
  refine tri_reg mixed hcx ?_ _ _
  refine fa rfl fLo 0 ?_
  refine ld rfl rfl tyF rfl ?_
  refine fa rfl fHi 1 ?_
  refine ld rfl rfl tyF rfl ?_
  refine fle rfl rfl h ?_
  refine asg rfl ?_
  refine ⟨by kernel_rfl, ?_⟩
  refine nx (sl 2 rfl sn) (el 10 rfl en) ?_
  refine tri_ret ?_
  repeat (first | refine pn_thenr ?_ | refine pn_blkr ?_)
  exact ret1 hcx rfl (rv_tmp rfl) (.refl _) en

theorem iv_both_t {a b c d : Option Nat} (h : oLe a b = true) (h2 : oLe c d = true) : Fn Try.prog 32 [T.st [T.F a, T.F b], T.st [T.F c, T.F d]] [] [] [] (T.c (.bool true)) := by
  refine fn_of Try.func32 rfl (by show 2 ≤ 13; decide) fun cx hcx => ?_
  refine tri_sub (sl 0 rfl (sl 1 rfl sn)) en ?_
  refine tri_seq ?_
  refine tri_reg mixed hcx ?_ _ _
  refine bxs 10 rfl ?_
  refine bxs 11 rfl ?_
  refine asg rfl ?_
  refine ⟨by kernel_rfl, ?_⟩
  refine nx (sl 2 rfl (sl 3 rfl sn)) (el 10 rfl (el 11 rfl en)) ?_
  refine tri_seq ?_
  refine tri_reg mixed hcx ?_ _ _
  refine ld rfl rfl tyV rfl ?_
  refine caf rfl (h := iv_Valid_t h) (hn := ?_)
  refine ceq rfl rfl (decide_eq_true (by omega)) ?_
  refine mv rfl ?_
  refine ld rfl rfl tyV rfl ?_ (hg := gd1)
  refine caf rfl (h := iv_Valid_t h2) (hn := ?_) (hg := gd1)
  refine ceq rfl rfl (decide_eq_true (by omega)) ?_ (hg := gd1)
  refine pk rfl rfl ?_
  refine asg rfl ?_
  refine ⟨by kernel_rfl, ?_⟩
  refine nx (sl 4 rfl sn) (el 10 rfl (el 11 rfl en)) ?_
  refine tri_ret ?_
  repeat (first | refine pn_thenr ?_ | refine pn_blkr ?_)
  exact ret1 hcx rfl (rv_tmp rfl) (.refl _) en

theorem iv_both_f1 {a b c d : Option Nat} (h : oLe a b = false) : Fn Try.prog 32 [T.st [T.F a, T.F b], T.st [T.F c, T.F d]] [] [] [] (T.c (.bool false)) := by
  refine fn_of Try.func32 rfl (by show 2 ≤ 13; decide) fun cx hcx => ?_
  refine tri_sub (sl 0 rfl (sl 1 rfl sn)) en ?_
  refine tri_seq ?_
  refine tri_reg mixed hcx ?_ _ _
  refine bxs 10 rfl ?_
  refine bxs 11 rfl ?_
  refine asg rfl ?_
  refine ⟨by kernel_rfl, ?_⟩
  refine nx (sl 2 rfl (sl 3 rfl sn)) (el 10 rfl (el 11 rfl en)) ?_
  refine tri_seq ?_
  refine tri_reg mixed hcx ?_ _ _
  refine ld rfl rfl tyV rfl ?_
  refine caf rfl (h := iv_Valid_f h) (hn := ?_)
  refine ceq rfl rfl (decide_eq_false (by omega)) ?_
  refine mv rfl ?_
  refine j_off rfl rfl rfl rfl ?_
  refine j_off rfl rfl rfl rfl ?_
  refine j_off rfl rfl rfl rfl ?_
  refine pk rfl rfl ?_
  refine asg rfl ?_
  refine ⟨by kernel_rfl, ?_⟩
  refine nx (sl 4 rfl sn) (el 10 rfl (el 11 rfl en)) ?_
  refine tri_ret ?_
  repeat (first | refine pn_thenr ?_ | refine pn_blkr ?_)
  exact ret1 hcx rfl (rv_tmp rfl) (.refl _) en

theorem iv_both_f2 {a b c d : Option Nat} (h : oLe a b = true) (h2 : oLe c d = false) : Fn Try.prog 32 [T.st [T.F a, T.F b], T.st [T.F c, T.F d]] [] [] [] (T.c (.bool false)) := by
  refine fn_of Try.func32 rfl (by show 2 ≤ 13; decide) fun cx hcx => ?_
  refine tri_sub (sl 0 rfl (sl 1 rfl sn)) en ?_
  refine tri_seq ?_
  refine tri_reg mixed hcx ?_ _ _
  refine bxs 10 rfl ?_
  refine bxs 11 rfl ?_
  refine asg rfl ?_
  refine ⟨by kernel_rfl, ?_⟩
  refine nx (sl 2 rfl (sl 3 rfl sn)) (el 10 rfl (el 11 rfl en)) ?_
  refine tri_seq ?_
  refine tri_reg mixed hcx ?_ _ _
  refine ld rfl rfl tyV rfl ?_
  refine caf rfl (h := iv_Valid_t h) (hn := ?_)
  refine ceq rfl rfl (decide_eq_true (by omega)) ?_
  refine mv rfl ?_
  refine ld rfl rfl tyV rfl ?_ (hg := gd1)
  refine caf rfl (h := iv_Valid_f h2) (hn := ?_) (hg := gd1)
  refine ceq rfl rfl (decide_eq_false (by omega)) ?_ (hg := gd1)
  refine pk rfl rfl ?_
  refine asg rfl ?_
  refine ⟨by kernel_rfl, ?_⟩
  refine nx (sl 4 rfl sn) (el 10 rfl (el 11 rfl en)) ?_
  refine tri_ret ?_
  repeat (first | refine pn_thenr ?_ | refine pn_blkr ?_)
  exact ret1 hcx rfl (rv_tmp rfl) (.refl _) en

theorem iv_both_f {a b c d : Option Nat} (h : oLe a b = false ∨ oLe c d = false) : Fn Try.prog 32 [T.st [T.F a, T.F b], T.st [T.F c, T.F d]] [] [] [] (T.c (.bool false)) := by
  cases h1 : oLe a b
  · exact iv_both_f1 h1
  · rcases h with h | h
    · rw [h1] at h; cases h
    · exact iv_both_f2 h1 h
abbrev ZV : T := T.st [T.c (.float .f64 0), T.c (.float .f64 0)]

theorem iv_Add {a b c d : Option Nat} (h : oLe a b = true) (h2 : oLe c d = true) : Fn Try.prog 11 [T.st [T.F a, T.F b], T.st [T.F c, T.F d]] [] [] [] (T.tup [T.st [T.F (oLow (oAdd a c)), T.F (oHigh (oAdd b d))], T.c (.int .i64 0)]) := by
  refine fn_of Try.func11 rfl (by show 2 ≤ 24; decide) fun cx hcx => ?_
  refine tri_sub (sl 0 rfl (sl 1 rfl sn)) en ?_
  refine tri_seq ?_
  refine tri_reg mixed hcx ?_ _ _
  refine bxs 10 rfl ?_
  refine bxs 11 rfl ?_
  refine nw 12 zeV ?_
  refine asg rfl ?_
  refine ⟨by kernel_rfl, ?_⟩
  refine nx (sl 2 rfl (sl 3 rfl (sl 4 rfl sn))) (el 10 rfl (el 11 rfl (el 12 rfl en))) ?_
  refine tri_seq ?_
  refine tri_seq ?_
  refine tri_reg mixed hcx ?_ _ _
  refine ld rfl rfl tyV rfl ?_
  refine ld rfl rfl tyV rfl ?_
  refine caf rfl (h := iv_both_t h h2) (hn := ?_)
  refine nt rfl _ rfl ?_
  refine ⟨by kernel_rfl, ?_⟩
  refine nx (sl 2 rfl (sl 3 rfl (sl 4 rfl (sl 9 rfl sn)))) (el 10 rfl (el 11 rfl (el 12 rfl en))) ?_
  refine tri_false rfl rfl ?_
  refine tri_skip ?_
  refine nx (sl 2 rfl (sl 3 rfl (sl 4 rfl sn))) (el 10 rfl (el 11 rfl (el 12 rfl en))) ?_
  refine tri_seq ?_
  refine tri_reg mixed hcx ?_ _ _
  refine fa rfl fLo 0 ?_
  refine ld rfl rfl tyF rfl ?_
  refine fa rfl fLo 0 ?_
  refine ld rfl rfl tyF rfl ?_
  refine fad rfl rfl ?_
  refine caf rfl (h := iv_low) (hn := ?_)
  refine fa rfl fHi 1 ?_
  refine ld rfl rfl tyF rfl ?_
  refine fa rfl fHi 1 ?_
  refine ld rfl rfl tyF rfl ?_
  refine fad rfl rfl ?_
  refine caf rfl (h := iv_high) (hn := ?_)
  refine bu stV rfl ?_
  refine st rfl rfl rfl tyV rfl ?_
  refine asg rfl ?_
  refine ⟨by kernel_rfl, ?_⟩
  refine nx (sl 4 rfl (sl 5 rfl sn)) (el 10 rfl (el 11 rfl (el 12 rfl en))) ?_
  refine tri_ret ?_
  repeat (first | refine pn_thenr ?_ | refine pn_blkr ?_)
  exact ret2 hcx rfl (rv_cell (c' := cx) (n := 0) rfl rfl tyV rfl) (rv_tmp rfl) (.refl _) en

theorem iv_Add_no {a b c d : Option Nat} (h : oLe a b = false ∨ oLe c d = false) : Fn Try.prog 11 [T.st [T.F a, T.F b], T.st [T.F c, T.F d]] [] [] [] (T.tup [ZV, T.c (.int .i64 90)]) := by
  refine fn_of Try.func11 rfl (by show 2 ≤ 24; decide) fun cx hcx => ?_
  refine tri_sub (sl 0 rfl (sl 1 rfl sn)) en ?_
  refine tri_seq ?_
  refine tri_reg mixed hcx ?_ _ _
  refine bxs 10 rfl ?_
  refine bxs 11 rfl ?_
  refine nw 12 zeV ?_
  refine asg rfl ?_
  refine ⟨by kernel_rfl, ?_⟩
  refine nx (sl 2 rfl (sl 3 rfl (sl 4 rfl sn))) (el 10 rfl (el 11 rfl (el 12 rfl en))) ?_
  refine tri_seq ?_
  refine tri_seq ?_
  refine tri_reg mixed hcx ?_ _ _
  refine ld rfl rfl tyV rfl ?_
  refine ld rfl rfl tyV rfl ?_
  refine caf rfl (h := iv_both_f h) (hn := ?_)
  refine nt rfl _ rfl ?_
  refine ⟨by kernel_rfl, ?_⟩
  refine nx (sl 2 rfl (sl 3 rfl (sl 4 rfl (sl 9 rfl sn)))) (el 10 rfl (el 11 rfl (el 12 rfl en))) ?_
  refine tri_true rfl rfl ?_
  refine tri_seq ?_
  refine tri_reg mixed hcx ?_ _ _
  refine bu stV rfl ?_
  refine st rfl rfl rfl tyV rfl ?_
  refine asg rfl ?_
  refine ⟨by kernel_rfl, ?_⟩
  refine nx (sl 4 rfl (sl 5 rfl sn)) (el 10 rfl (el 11 rfl (el 12 rfl en))) ?_
  refine tri_ret ?_
  repeat (first | refine pn_thenr ?_ | refine pn_blkr ?_)
  exact ret2 hcx rfl (rv_cell (c' := cx) (n := 0) rfl rfl tyV rfl) (rv_tmp rfl) (.refl _) en

theorem iv_Sub {a b c d : Option Nat} (h : oLe a b = true) (h2 : oLe c d = true) : Fn Try.prog 12 [T.st [T.F a, T.F b], T.st [T.F c, T.F d]] [] [] [] (T.tup [T.st [T.F (oLow (oSub a d)), T.F (oHigh (oSub b c))], T.c (.int .i64 0)]) := by
  refine fn_of Try.func12 rfl (by show 2 ≤ 24; decide) fun cx hcx => ?_
  refine tri_sub (sl 0 rfl (sl 1 rfl sn)) en ?_
  refine tri_seq ?_
  refine tri_reg mixed hcx ?_ _ _
  refine bxs 10 rfl ?_
  refine bxs 11 rfl ?_
  refine nw 12 zeV ?_
  refine asg rfl ?_
  refine ⟨by kernel_rfl, ?_⟩
  refine nx (sl 2 rfl (sl 3 rfl (sl 4 rfl sn))) (el 10 rfl (el 11 rfl (el 12 rfl en))) ?_
  refine tri_seq ?_
  refine tri_seq ?_
  refine tri_reg mixed hcx ?_ _ _
  refine ld rfl rfl tyV rfl ?_
  refine ld rfl rfl tyV rfl ?_
  refine caf rfl (h := iv_both_t h h2) (hn := ?_)
  refine nt rfl _ rfl ?_
  refine ⟨by kernel_rfl, ?_⟩
  refine nx (sl 2 rfl (sl 3 rfl (sl 4 rfl (sl 9 rfl sn)))) (el 10 rfl (el 11 rfl (el 12 rfl en))) ?_
  refine tri_false rfl rfl ?_
  refine tri_skip ?_
  refine nx (sl 2 rfl (sl 3 rfl (sl 4 rfl sn))) (el 10 rfl (el 11 rfl (el 12 rfl en))) ?_
  refine tri_seq ?_
  refine tri_reg mixed hcx ?_ _ _
  refine fa rfl fLo 0 ?_
  refine ld rfl rfl tyF rfl ?_
  refine fa rfl fHi 1 ?_
  refine ld rfl rfl tyF rfl ?_
  refine fsb rfl rfl ?_
  refine caf rfl (h := iv_low) (hn := ?_)
  refine fa rfl fHi 1 ?_
  refine ld rfl rfl tyF rfl ?_
  refine fa rfl fLo 0 ?_
  refine ld rfl rfl tyF rfl ?_
  refine fsb rfl rfl ?_
  refine caf rfl (h := iv_high) (hn := ?_)
  refine bu stV rfl ?_
  refine st rfl rfl rfl tyV rfl ?_
  refine asg rfl ?_
  refine ⟨by kernel_rfl, ?_⟩
  refine nx (sl 4 rfl (sl 5 rfl sn)) (el 10 rfl (el 11 rfl (el 12 rfl en))) ?_
  refine tri_ret ?_
  repeat (first | refine pn_thenr ?_ | refine pn_blkr ?_)
  exact ret2 hcx rfl (rv_cell (c' := cx) (n := 0) rfl rfl tyV rfl) (rv_tmp rfl) (.refl _) en

theorem iv_Sub_no {a b c d : Option Nat} (h : oLe a b = false ∨ oLe c d = false) : Fn Try.prog 12 [T.st [T.F a, T.F b], T.st [T.F c, T.F d]] [] [] [] (T.tup [ZV, T.c (.int .i64 90)]) := by
  refine fn_of Try.func12 rfl (by show 2 ≤ 24; decide) fun cx hcx => ?_
  refine tri_sub (sl 0 rfl (sl 1 rfl sn)) en ?_
  refine tri_seq ?_
  refine tri_reg mixed hcx ?_ _ _
  refine bxs 10 rfl ?_
  refine bxs 11 rfl ?_
  refine nw 12 zeV ?_
  refine asg rfl ?_
  refine ⟨by kernel_rfl, ?_⟩
  refine nx (sl 2 rfl (sl 3 rfl (sl 4 rfl sn))) (el 10 rfl (el 11 rfl (el 12 rfl en))) ?_
  refine tri_seq ?_
  refine tri_seq ?_
  refine tri_reg mixed hcx ?_ _ _
  refine ld rfl rfl tyV rfl ?_
  refine ld rfl rfl tyV rfl ?_
  refine caf rfl (h := iv_both_f h) (hn := ?_)
  refine nt rfl _ rfl ?_
  refine ⟨by kernel_rfl, ?_⟩
  refine nx (sl 2 rfl (sl 3 rfl (sl 4 rfl (sl 9 rfl sn)))) (el 10 rfl (el 11 rfl (el 12 rfl en))) ?_
  refine tri_true rfl rfl ?_
  refine tri_seq ?_
  refine tri_reg mixed hcx ?_ _ _
  refine bu stV rfl ?_
  refine st rfl rfl rfl tyV rfl ?_
  refine asg rfl ?_
  refine ⟨by kernel_rfl, ?_⟩
  refine nx (sl 4 rfl (sl 5 rfl sn)) (el 10 rfl (el 11 rfl (el 12 rfl en))) ?_
  refine tri_ret ?_
  repeat (first | refine pn_thenr ?_ | refine pn_blkr ?_)
  exact ret2 hcx rfl (rv_cell (c' := cx) (n := 0) rfl rfl tyV rfl) (rv_tmp rfl) (.refl _) en

theorem l9_same {a b : Option Nat} : Fn Try.prog 20 [T.st [T.F a, T.F b], T.st [T.F a, T.F b]] [] [] [] (T.c (.bool true)) := by
  refine fn_of Try.func20 rfl (by show 2 ≤ 17; decide) fun cx hcx => ?_
  refine tri_sub (sl 0 rfl (sl 1 rfl sn)) en ?_
  refine tri_seq ?_
  refine tri_reg mixed hcx ?_ _ _
  refine bxs 10 rfl ?_
  refine bxs 11 rfl ?_
  refine asg rfl ?_
  refine ⟨by kernel_rfl, ?_⟩
  refine nx (sl 2 rfl (sl 3 rfl sn)) (el 10 rfl (el 11 rfl en)) ?_
  refine tri_seq ?_
  refine tri_reg mixed hcx ?_ _ _
  refine fa rfl fLo 0 ?_
  refine ld rfl rfl tyF rfl ?_
  refine fa rfl fLo 0 ?_
  refine ld rfl rfl tyF rfl ?_
  refine caf rfl (h := l9_equal) (hn := ?_)
  refine mv rfl ?_
  refine fa rfl fHi 1 ?_ (hg := gd1)
  refine ld rfl rfl tyF rfl ?_ (hg := gd1)
  refine fa rfl fHi 1 ?_ (hg := gd1)
  refine ld rfl rfl tyF rfl ?_ (hg := gd1)
  refine caf rfl (h := l9_equal) (hn := ?_) (hg := gd1)
  refine pk rfl rfl ?_
  refine asg rfl ?_
  refine ⟨by kernel_rfl, ?_⟩
  refine nx (sl 4 rfl sn) (el 10 rfl (el 11 rfl en)) ?_
  refine tri_ret ?_
  repeat (first | refine pn_thenr ?_ | refine pn_blkr ?_)
  exact ret1 hcx rfl (rv_tmp rfl) (.refl _) en

end Go.Proofs.Ytlmiadjogdfjkaa.V
