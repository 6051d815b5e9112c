/- Intervals: what is true. -/
import Derived.Test.YtlmiadjogdfjkaaFy
set_option linter.unusedVariables false
set_option linter.unusedSimpArgs false
set_option maxRecDepth 100000
namespace Go.Proofs.Ytlmiadjogdfjkaa.V
open Go.RowKit Mt Nml
theorem den_p (q : Rat) : 0 < ((q.den : Int)) := Int.natCast_pos.2 q.den_pos
theorem r9_hold_t {o p : Option Nat} {c d : Int} {v : Rat} {k : Nat} (h : Bx o p v) (hv : (c : Rat) / (d : Rat) = v) (hd : 0 < d) (hk : k ≤ 17179869184) : Fn Try.prog 10 [T.st [T.F o, T.F p], T.Qi c d k] [] [] [] (T.c (.bool true)) := fn_out (r9_Holds h.1 hd hk) (.of (by rw [hv, h.2.1, h.2.2]; rfl))
theorem r9_hold_q {o p : Option Nat} {c d : Int} {k : Nat} {q : Bool} (h : oLe o p = true) (hd : 0 < d) (hk : k ≤ 17179869184) (hq : (fitsL o ((c : Rat) / (d : Rat)) && fitsH p ((c : Rat) / (d : Rat))) = q) : Fn Try.prog 10 [T.st [T.F o, T.F p], T.Qi c d k] [] [] [] (T.c (.bool q)) := fn_out (r9_Holds h hd hk) (.of (by rw [hq]))
theorem iv_CmpQ {a b c d : Option Nat} {q : Bool} (h : oLe a b = true) (h2 : oLe c d = true) (h9 : cmS a b c d = q) : Fn Try.prog 15 [T.st [T.F a, T.F b], T.st [T.F c, T.F d]] [] [] [] (T.tup [T.c (.int .i64 (cmN a b c d)), T.c (.bool q), T.c (.int .i64 0)]) := h9 ▸ iv_Cmp h h2

theorem r03_MulG {a b c d : Int} {k l : Nat} (hb0 : b ≠ 0) (hd0 : d ≠ 0) (hk : k ≤ 68719476736) (hl : l ≤ 68719476736) : Fn Try.prog 18 [T.Qi a b k, T.Qi c d l] [] [] [] (T.Q ((a : Rat) / (b : Rat) * ((c : Rat) / (d : Rat))) (k + l + (k + l))) := by
  refine fn_of Try.func18 rfl (by show 2 ≤ 16; decide) fun cx hcx => ?_
  refine tri_sub (sl 0 rfl (sl 1 rfl sn)) en ?_
  have hbd0 : b * d ≠ 0 := Int.mul_ne_zero hb0 hd0
  refine tri_seq ?_
  refine tri_reg mixed hcx ?_ _ _
  refine bxs 10 rfl ?_
  refine bxs 11 rfl ?_
  refine nw 12 zeQ ?_
  refine ⟨by kernel_rfl, ?_⟩
  refine nx (sl 2 rfl (sl 3 rfl (sl 4 rfl sn))) (el 10 rfl (el 11 rfl (el 12 rfl en))) ?_
  refine tri_seq ?_
  refine tri_reg mixed hcx ?_ _ _
  refine fa rfl fNum 0 ?_
  refine ld rfl rfl tyZ rfl ?_
  refine fa rfl fNum 0 ?_
  refine ld rfl rfl tyZ rfl ?_
  refine ca rfl (h := r02_Mul (by omega) (by omega)) (hn := ?_)
  refine fa rfl fDen 2 ?_
  refine ld rfl rfl tyZ rfl ?_
  refine fa rfl fDen 2 ?_
  refine ld rfl rfl tyZ rfl ?_
  refine ca rfl (h := r02_Mul (by omega) (by omega)) (hn := ?_)
  refine ca rfl (h := r03_Make (by first | assumption | omega) (by omega) (by omega)) (hn := ?_)
  refine st rfl rfl rfl tyQ rfl ?_
  refine ⟨by kernel_rfl, ?_⟩
  refine nx (sl 4 rfl sn) (el 10 rfl (el 11 rfl (el 12 rfl en))) ?_
  refine tri_ret ?_
  repeat (first | refine pn_thenr ?_ | refine pn_blkr ?_)
  exact ret1 hcx rfl (rv_cell (c' := cx) (n := 0) rfl rfl tyQ rfl) (q_eq (rat_mulG _ _ _ _) (by omega)) en

theorem true_a {a b c d : Option Nat} {m n m2 n2 : Int} {k l : Nat} (h : oLe a b = false) : Fn Try.prog 3 [T.st [T.F a, T.F b], T.st [T.F c, T.F d], T.Qi m n k, T.Qi m2 n2 l] [] [] [] (T.c (.bool true)) := by
  refine fn_of Try.func3 rfl (by show 4 ≤ 141; decide) fun cx hcx => ?_
  refine tri_sub (sl 0 rfl (sl 1 rfl (sl 2 rfl (sl 3 rfl sn)))) en ?_
  refine tri_seq ?_
  refine tri_reg mixed hcx ?_ _ _
  refine bxs 10 rfl ?_
  refine bxs 11 rfl ?_
  refine bxs 12 rfl ?_
  refine bxs 13 rfl ?_
  refine asg rfl ?_
  refine ⟨by kernel_rfl, ?_⟩
  refine nx (sl 4 rfl (sl 5 rfl (sl 6 rfl (sl 7 rfl sn)))) (el 10 rfl (el 11 rfl (el 12 rfl (el 13 rfl en)))) ?_
  refine tri_seq ?_
  refine tri_seq ?_
  refine tri_reg mixed hcx ?_ _ _
  refine ca rfl (h := l9_awake) (hn := ?_)
  refine nt rfl _ rfl ?_
  refine ⟨by kernel_rfl, ?_⟩
  refine nx (sl 4 rfl (sl 5 rfl (sl 6 rfl (sl 7 rfl (sl 21 rfl sn))))) (el 10 rfl (el 11 rfl (el 12 rfl (el 13 rfl en)))) ?_
  refine tri_false rfl rfl ?_
  refine tri_skip ?_
  refine nx (sl 4 rfl (sl 5 rfl (sl 6 rfl (sl 7 rfl sn)))) (el 10 rfl (el 11 rfl (el 12 rfl (el 13 rfl en)))) ?_
  refine tri_seq ?_
  refine tri_seq ?_
  refine tri_reg mixed hcx ?_ _ _
  refine ld rfl rfl tyV rfl ?_
  refine caf rfl (h := r9_Valid h) (hn := ?_)
  refine nt rfl _ rfl ?_
  refine mv rfl ?_
  refine j_off rfl rfl rfl rfl ?_
  refine j_off rfl rfl rfl rfl ?_
  refine j_off rfl rfl rfl rfl ?_
  refine pk rfl rfl ?_
  refine mv rfl ?_
  refine j_off rfl rfl rfl rfl ?_
  refine j_off rfl rfl rfl rfl ?_
  refine j_off rfl rfl rfl rfl ?_
  refine pk rfl rfl ?_
  refine mv rfl ?_
  refine j_off rfl rfl rfl rfl ?_
  refine j_off rfl rfl rfl rfl ?_
  refine j_off rfl rfl rfl rfl ?_
  refine pk rfl rfl ?_
  refine ⟨by kernel_rfl, ?_⟩
  refine nx (sl 4 rfl (sl 5 rfl (sl 6 rfl (sl 7 rfl (sl 39 rfl sn))))) (el 10 rfl (el 11 rfl (el 12 rfl (el 13 rfl en)))) ?_
  refine tri_true rfl rfl ?_
  refine tri_seq ?_
  refine tri_reg mixed hcx ?_ _ _
  refine asg rfl ?_
  refine ⟨by kernel_rfl, ?_⟩
  refine nx (sl 8 rfl sn) (el 10 rfl (el 11 rfl (el 12 rfl (el 13 rfl en)))) ?_
  refine tri_ret ?_
  repeat (first | refine pn_thenr ?_ | refine pn_blkr ?_)
  exact ret1 hcx rfl (rv_tmp rfl) (.refl _) en

theorem true_b {a b c d : Option Nat} {m n m2 n2 : Int} {k l : Nat} (h : oLe a b = true) (h2 : oLe c d = false) : Fn Try.prog 3 [T.st [T.F a, T.F b], T.st [T.F c, T.F d], T.Qi m n k, T.Qi m2 n2 l] [] [] [] (T.c (.bool true)) := by
  refine fn_of Try.func3 rfl (by show 4 ≤ 141; decide) fun cx hcx => ?_
  refine tri_sub (sl 0 rfl (sl 1 rfl (sl 2 rfl (sl 3 rfl sn)))) en ?_
  refine tri_seq ?_
  refine tri_reg mixed hcx ?_ _ _
  refine bxs 10 rfl ?_
  refine bxs 11 rfl ?_
  refine bxs 12 rfl ?_
  refine bxs 13 rfl ?_
  refine asg rfl ?_
  refine ⟨by kernel_rfl, ?_⟩
  refine nx (sl 4 rfl (sl 5 rfl (sl 6 rfl (sl 7 rfl sn)))) (el 10 rfl (el 11 rfl (el 12 rfl (el 13 rfl en)))) ?_
  refine tri_seq ?_
  refine tri_seq ?_
  refine tri_reg mixed hcx ?_ _ _
  refine ca rfl (h := l9_awake) (hn := ?_)
  refine nt rfl _ rfl ?_
  refine ⟨by kernel_rfl, ?_⟩
  refine nx (sl 4 rfl (sl 5 rfl (sl 6 rfl (sl 7 rfl (sl 21 rfl sn))))) (el 10 rfl (el 11 rfl (el 12 rfl (el 13 rfl en)))) ?_
  refine tri_false rfl rfl ?_
  refine tri_skip ?_
  refine nx (sl 4 rfl (sl 5 rfl (sl 6 rfl (sl 7 rfl sn)))) (el 10 rfl (el 11 rfl (el 12 rfl (el 13 rfl en)))) ?_
  refine tri_seq ?_
  refine tri_seq ?_
  refine tri_reg mixed hcx ?_ _ _
  refine ld rfl rfl tyV rfl ?_
  refine caf rfl (h := r9_Valid h) (hn := ?_)
  refine nt rfl _ rfl ?_
  refine mv rfl ?_
  refine ld rfl rfl tyV rfl ?_ (hg := gd1)
  refine caf rfl (h := r9_Valid h2) (hn := ?_) (hg := gd1)
  refine nt rfl _ rfl ?_ (hg := gd1)
  refine pk rfl rfl ?_
  refine mv rfl ?_
  refine j_off rfl rfl rfl rfl ?_
  refine j_off rfl rfl rfl rfl ?_
  refine j_off rfl rfl rfl rfl ?_
  refine pk rfl rfl ?_
  refine mv rfl ?_
  refine j_off rfl rfl rfl rfl ?_
  refine j_off rfl rfl rfl rfl ?_
  refine j_off rfl rfl rfl rfl ?_
  refine pk rfl rfl ?_
  refine ⟨by kernel_rfl, ?_⟩
  refine nx (sl 4 rfl (sl 5 rfl (sl 6 rfl (sl 7 rfl (sl 39 rfl sn))))) (el 10 rfl (el 11 rfl (el 12 rfl (el 13 rfl en)))) ?_
  refine tri_true rfl rfl ?_
  refine tri_seq ?_
  refine tri_reg mixed hcx ?_ _ _
  refine asg rfl ?_
  refine ⟨by kernel_rfl, ?_⟩
  refine nx (sl 8 rfl sn) (el 10 rfl (el 11 rfl (el 12 rfl (el 13 rfl en)))) ?_
  refine tri_ret ?_
  repeat (first | refine pn_thenr ?_ | refine pn_blkr ?_)
  exact ret1 hcx rfl (rv_tmp rfl) (.refl _) en

theorem true_x {a b c d : Option Nat} {m n m2 n2 : Int} {k l : Nat} (h : oLe a b = true) (h2 : oLe c d = true) (hn : ¬ 0 < n) (hk : k ≤ 1073741824) (hl : l ≤ 1073741824) : Fn Try.prog 3 [T.st [T.F a, T.F b], T.st [T.F c, T.F d], T.Qi m n k, T.Qi m2 n2 l] [] [] [] (T.c (.bool true)) := by
  refine fn_of Try.func3 rfl (by show 4 ≤ 141; decide) fun cx hcx => ?_
  refine tri_sub (sl 0 rfl (sl 1 rfl (sl 2 rfl (sl 3 rfl sn)))) en ?_
  refine tri_seq ?_
  refine tri_reg mixed hcx ?_ _ _
  refine bxs 10 rfl ?_
  refine bxs 11 rfl ?_
  refine bxs 12 rfl ?_
  refine bxs 13 rfl ?_
  refine asg rfl ?_
  refine ⟨by kernel_rfl, ?_⟩
  refine nx (sl 4 rfl (sl 5 rfl (sl 6 rfl (sl 7 rfl sn)))) (el 10 rfl (el 11 rfl (el 12 rfl (el 13 rfl en)))) ?_
  refine tri_seq ?_
  refine tri_seq ?_
  refine tri_reg mixed hcx ?_ _ _
  refine ca rfl (h := l9_awake) (hn := ?_)
  refine nt rfl _ rfl ?_
  refine ⟨by kernel_rfl, ?_⟩
  refine nx (sl 4 rfl (sl 5 rfl (sl 6 rfl (sl 7 rfl (sl 21 rfl sn))))) (el 10 rfl (el 11 rfl (el 12 rfl (el 13 rfl en)))) ?_
  refine tri_false rfl rfl ?_
  refine tri_skip ?_
  refine nx (sl 4 rfl (sl 5 rfl (sl 6 rfl (sl 7 rfl sn)))) (el 10 rfl (el 11 rfl (el 12 rfl (el 13 rfl en)))) ?_
  refine tri_seq ?_
  refine tri_seq ?_
  refine tri_reg mixed hcx ?_ _ _
  refine ld rfl rfl tyV rfl ?_
  refine caf rfl (h := r9_Valid h) (hn := ?_)
  refine nt rfl _ rfl ?_
  refine mv rfl ?_
  refine ld rfl rfl tyV rfl ?_ (hg := gd1)
  refine caf rfl (h := r9_Valid h2) (hn := ?_) (hg := gd1)
  refine nt rfl _ rfl ?_ (hg := gd1)
  refine pk rfl rfl ?_
  refine mv rfl ?_
  refine ld rfl rfl tyQ rfl ?_ (hg := gd1)
  refine ca rfl (h := r03_ValidG (q := false) ⟨fun e => (by cases e), fun e => absurd e hn⟩ (by omega)) (hn := ?_) (hg := gd1)
  refine nt rfl _ rfl ?_ (hg := gd1)
  refine pk rfl rfl ?_
  refine mv rfl ?_
  refine j_off rfl rfl rfl rfl ?_
  refine j_off rfl rfl rfl rfl ?_
  refine j_off rfl rfl rfl rfl ?_
  refine pk rfl rfl ?_
  refine ⟨by kernel_rfl, ?_⟩
  refine nx (sl 4 rfl (sl 5 rfl (sl 6 rfl (sl 7 rfl (sl 39 rfl sn))))) (el 10 rfl (el 11 rfl (el 12 rfl (el 13 rfl en)))) ?_
  refine tri_true rfl rfl ?_
  refine tri_seq ?_
  refine tri_reg mixed hcx ?_ _ _
  refine asg rfl ?_
  refine ⟨by kernel_rfl, ?_⟩
  refine nx (sl 8 rfl sn) (el 10 rfl (el 11 rfl (el 12 rfl (el 13 rfl en)))) ?_
  refine tri_ret ?_
  repeat (first | refine pn_thenr ?_ | refine pn_blkr ?_)
  exact ret1 hcx rfl (rv_tmp rfl) (.refl _) en

theorem true_y {a b c d : Option Nat} {m n m2 n2 : Int} {k l : Nat} (h : oLe a b = true) (h2 : oLe c d = true) (hn : 0 < n) (hn2 : ¬ 0 < n2) (hk : k ≤ 1073741824) (hl : l ≤ 1073741824) : Fn Try.prog 3 [T.st [T.F a, T.F b], T.st [T.F c, T.F d], T.Qi m n k, T.Qi m2 n2 l] [] [] [] (T.c (.bool true)) := by
  refine fn_of Try.func3 rfl (by show 4 ≤ 141; decide) fun cx hcx => ?_
  refine tri_sub (sl 0 rfl (sl 1 rfl (sl 2 rfl (sl 3 rfl sn)))) en ?_
  refine tri_seq ?_
  refine tri_reg mixed hcx ?_ _ _
  refine bxs 10 rfl ?_
  refine bxs 11 rfl ?_
  refine bxs 12 rfl ?_
  refine bxs 13 rfl ?_
  refine asg rfl ?_
  refine ⟨by kernel_rfl, ?_⟩
  refine nx (sl 4 rfl (sl 5 rfl (sl 6 rfl (sl 7 rfl sn)))) (el 10 rfl (el 11 rfl (el 12 rfl (el 13 rfl en)))) ?_
  refine tri_seq ?_
  refine tri_seq ?_
  refine tri_reg mixed hcx ?_ _ _
  refine ca rfl (h := l9_awake) (hn := ?_)
  refine nt rfl _ rfl ?_
  refine ⟨by kernel_rfl, ?_⟩
  refine nx (sl 4 rfl (sl 5 rfl (sl 6 rfl (sl 7 rfl (sl 21 rfl sn))))) (el 10 rfl (el 11 rfl (el 12 rfl (el 13 rfl en)))) ?_
  refine tri_false rfl rfl ?_
  refine tri_skip ?_
  refine nx (sl 4 rfl (sl 5 rfl (sl 6 rfl (sl 7 rfl sn)))) (el 10 rfl (el 11 rfl (el 12 rfl (el 13 rfl en)))) ?_
  refine tri_seq ?_
  refine tri_seq ?_
  refine tri_reg mixed hcx ?_ _ _
  refine ld rfl rfl tyV rfl ?_
  refine caf rfl (h := r9_Valid h) (hn := ?_)
  refine nt rfl _ rfl ?_
  refine mv rfl ?_
  refine ld rfl rfl tyV rfl ?_ (hg := gd1)
  refine caf rfl (h := r9_Valid h2) (hn := ?_) (hg := gd1)
  refine nt rfl _ rfl ?_ (hg := gd1)
  refine pk rfl rfl ?_
  refine mv rfl ?_
  refine ld rfl rfl tyQ rfl ?_ (hg := gd1)
  refine ca rfl (h := r03_ValidG (q := true) ⟨fun _ => hn, fun _ => rfl⟩ (by omega)) (hn := ?_) (hg := gd1)
  refine nt rfl _ rfl ?_ (hg := gd1)
  refine pk rfl rfl ?_
  refine mv rfl ?_
  refine ld rfl rfl tyQ rfl ?_ (hg := gd1)
  refine ca rfl (h := r03_ValidG (q := false) ⟨fun e => (by cases e), fun e => absurd e hn2⟩ (by omega)) (hn := ?_) (hg := gd1)
  refine nt rfl _ rfl ?_ (hg := gd1)
  refine pk rfl rfl ?_
  refine ⟨by kernel_rfl, ?_⟩
  refine nx (sl 4 rfl (sl 5 rfl (sl 6 rfl (sl 7 rfl (sl 39 rfl sn))))) (el 10 rfl (el 11 rfl (el 12 rfl (el 13 rfl en)))) ?_
  refine tri_true rfl rfl ?_
  refine tri_seq ?_
  refine tri_reg mixed hcx ?_ _ _
  refine asg rfl ?_
  refine ⟨by kernel_rfl, ?_⟩
  refine nx (sl 8 rfl sn) (el 10 rfl (el 11 rfl (el 12 rfl (el 13 rfl en)))) ?_
  refine tri_ret ?_
  repeat (first | refine pn_thenr ?_ | refine pn_blkr ?_)
  exact ret1 hcx rfl (rv_tmp rfl) (.refl _) en

theorem true_na {a b c d : Option Nat} {m n m2 n2 : Int} {k l : Nat} (h : oLe a b = true) (h2 : oLe c d = true) (hn : 0 < n) (hn2 : 0 < n2) (hk : k ≤ 1073741824) (hl : l ≤ 1073741824) (h3 : (fitsL a ((m : Rat) / (n : Rat)) && fitsH b ((m : Rat) / (n : Rat))) = false) : Fn Try.prog 3 [T.st [T.F a, T.F b], T.st [T.F c, T.F d], T.Qi m n k, T.Qi m2 n2 l] [] [] [] (T.c (.bool true)) := by
  refine fn_of Try.func3 rfl (by show 4 ≤ 141; decide) fun cx hcx => ?_
  refine tri_sub (sl 0 rfl (sl 1 rfl (sl 2 rfl (sl 3 rfl sn)))) en ?_
  refine tri_seq ?_
  refine tri_reg mixed hcx ?_ _ _
  refine bxs 10 rfl ?_
  refine bxs 11 rfl ?_
  refine bxs 12 rfl ?_
  refine bxs 13 rfl ?_
  refine asg rfl ?_
  refine ⟨by kernel_rfl, ?_⟩
  refine nx (sl 4 rfl (sl 5 rfl (sl 6 rfl (sl 7 rfl sn)))) (el 10 rfl (el 11 rfl (el 12 rfl (el 13 rfl en)))) ?_
  refine tri_seq ?_
  refine tri_seq ?_
  refine tri_reg mixed hcx ?_ _ _
  refine ca rfl (h := l9_awake) (hn := ?_)
  refine nt rfl _ rfl ?_
  refine ⟨by kernel_rfl, ?_⟩
  refine nx (sl 4 rfl (sl 5 rfl (sl 6 rfl (sl 7 rfl (sl 21 rfl sn))))) (el 10 rfl (el 11 rfl (el 12 rfl (el 13 rfl en)))) ?_
  refine tri_false rfl rfl ?_
  refine tri_skip ?_
  refine nx (sl 4 rfl (sl 5 rfl (sl 6 rfl (sl 7 rfl sn)))) (el 10 rfl (el 11 rfl (el 12 rfl (el 13 rfl en)))) ?_
  refine tri_seq ?_
  refine tri_seq ?_
  refine tri_reg mixed hcx ?_ _ _
  refine ld rfl rfl tyV rfl ?_
  refine caf rfl (h := r9_Valid h) (hn := ?_)
  refine nt rfl _ rfl ?_
  refine mv rfl ?_
  refine ld rfl rfl tyV rfl ?_ (hg := gd1)
  refine caf rfl (h := r9_Valid h2) (hn := ?_) (hg := gd1)
  refine nt rfl _ rfl ?_ (hg := gd1)
  refine pk rfl rfl ?_
  refine mv rfl ?_
  refine ld rfl rfl tyQ rfl ?_ (hg := gd1)
  refine ca rfl (h := r03_ValidG (q := true) ⟨fun _ => hn, fun _ => rfl⟩ (by omega)) (hn := ?_) (hg := gd1)
  refine nt rfl _ rfl ?_ (hg := gd1)
  refine pk rfl rfl ?_
  refine mv rfl ?_
  refine ld rfl rfl tyQ rfl ?_ (hg := gd1)
  refine ca rfl (h := r03_ValidG (q := true) ⟨fun _ => hn2, fun _ => rfl⟩ (by omega)) (hn := ?_) (hg := gd1)
  refine nt rfl _ rfl ?_ (hg := gd1)
  refine pk rfl rfl ?_
  refine ⟨by kernel_rfl, ?_⟩
  refine nx (sl 4 rfl (sl 5 rfl (sl 6 rfl (sl 7 rfl (sl 39 rfl sn))))) (el 10 rfl (el 11 rfl (el 12 rfl (el 13 rfl en)))) ?_
  refine tri_false rfl rfl ?_
  refine tri_skip ?_
  refine nx (sl 4 rfl (sl 5 rfl (sl 6 rfl (sl 7 rfl sn)))) (el 10 rfl (el 11 rfl (el 12 rfl (el 13 rfl en)))) ?_
  refine tri_seq ?_
  refine tri_seq ?_
  refine tri_reg mixed hcx ?_ _ _
  refine ld rfl rfl tyV rfl ?_
  refine ld rfl rfl tyQ rfl ?_
  refine caf rfl (h := r9_hold_q h hn (by omega) h3) (hn := ?_)
  refine nt rfl _ rfl ?_
  refine mv rfl ?_
  refine j_off rfl rfl rfl rfl ?_
  refine j_off rfl rfl rfl rfl ?_
  refine j_off rfl rfl rfl rfl ?_
  refine j_off rfl rfl rfl rfl ?_
  refine pk rfl rfl ?_
  refine ⟨by kernel_rfl, ?_⟩
  refine nx (sl 4 rfl (sl 5 rfl (sl 6 rfl (sl 7 rfl (sl 49 rfl sn))))) (el 10 rfl (el 11 rfl (el 12 rfl (el 13 rfl en)))) ?_
  refine tri_true rfl rfl ?_
  refine tri_seq ?_
  refine tri_reg mixed hcx ?_ _ _
  refine asg rfl ?_
  refine ⟨by kernel_rfl, ?_⟩
  refine nx (sl 8 rfl sn) (el 10 rfl (el 11 rfl (el 12 rfl (el 13 rfl en)))) ?_
  refine tri_ret ?_
  repeat (first | refine pn_thenr ?_ | refine pn_blkr ?_)
  exact ret1 hcx rfl (rv_tmp rfl) (.refl _) en

theorem true_nb {a b c d : Option Nat} {m n m2 n2 : Int} {k l : Nat} (h : oLe a b = true) (h2 : oLe c d = true) (hn : 0 < n) (hn2 : 0 < n2) (hk : k ≤ 1073741824) (hl : l ≤ 1073741824) (h3 : (fitsL a ((m : Rat) / (n : Rat)) && fitsH b ((m : Rat) / (n : Rat))) = true) (h4 : (fitsL c ((m2 : Rat) / (n2 : Rat)) && fitsH d ((m2 : Rat) / (n2 : Rat))) = false) : Fn Try.prog 3 [T.st [T.F a, T.F b], T.st [T.F c, T.F d], T.Qi m n k, T.Qi m2 n2 l] [] [] [] (T.c (.bool true)) := by
  refine fn_of Try.func3 rfl (by show 4 ≤ 141; decide) fun cx hcx => ?_
  refine tri_sub (sl 0 rfl (sl 1 rfl (sl 2 rfl (sl 3 rfl sn)))) en ?_
  refine tri_seq ?_
  refine tri_reg mixed hcx ?_ _ _
  refine bxs 10 rfl ?_
  refine bxs 11 rfl ?_
  refine bxs 12 rfl ?_
  refine bxs 13 rfl ?_
  refine asg rfl ?_
  refine ⟨by kernel_rfl, ?_⟩
  refine nx (sl 4 rfl (sl 5 rfl (sl 6 rfl (sl 7 rfl sn)))) (el 10 rfl (el 11 rfl (el 12 rfl (el 13 rfl en)))) ?_
  refine tri_seq ?_
  refine tri_seq ?_
  refine tri_reg mixed hcx ?_ _ _
  refine ca rfl (h := l9_awake) (hn := ?_)
  refine nt rfl _ rfl ?_
  refine ⟨by kernel_rfl, ?_⟩
  refine nx (sl 4 rfl (sl 5 rfl (sl 6 rfl (sl 7 rfl (sl 21 rfl sn))))) (el 10 rfl (el 11 rfl (el 12 rfl (el 13 rfl en)))) ?_
  refine tri_false rfl rfl ?_
  refine tri_skip ?_
  refine nx (sl 4 rfl (sl 5 rfl (sl 6 rfl (sl 7 rfl sn)))) (el 10 rfl (el 11 rfl (el 12 rfl (el 13 rfl en)))) ?_
  refine tri_seq ?_
  refine tri_seq ?_
  refine tri_reg mixed hcx ?_ _ _
  refine ld rfl rfl tyV rfl ?_
  refine caf rfl (h := r9_Valid h) (hn := ?_)
  refine nt rfl _ rfl ?_
  refine mv rfl ?_
  refine ld rfl rfl tyV rfl ?_ (hg := gd1)
  refine caf rfl (h := r9_Valid h2) (hn := ?_) (hg := gd1)
  refine nt rfl _ rfl ?_ (hg := gd1)
  refine pk rfl rfl ?_
  refine mv rfl ?_
  refine ld rfl rfl tyQ rfl ?_ (hg := gd1)
  refine ca rfl (h := r03_ValidG (q := true) ⟨fun _ => hn, fun _ => rfl⟩ (by omega)) (hn := ?_) (hg := gd1)
  refine nt rfl _ rfl ?_ (hg := gd1)
  refine pk rfl rfl ?_
  refine mv rfl ?_
  refine ld rfl rfl tyQ rfl ?_ (hg := gd1)
  refine ca rfl (h := r03_ValidG (q := true) ⟨fun _ => hn2, fun _ => rfl⟩ (by omega)) (hn := ?_) (hg := gd1)
  refine nt rfl _ rfl ?_ (hg := gd1)
  refine pk rfl rfl ?_
  refine ⟨by kernel_rfl, ?_⟩
  refine nx (sl 4 rfl (sl 5 rfl (sl 6 rfl (sl 7 rfl (sl 39 rfl sn))))) (el 10 rfl (el 11 rfl (el 12 rfl (el 13 rfl en)))) ?_
  refine tri_false rfl rfl ?_
  refine tri_skip ?_
  refine nx (sl 4 rfl (sl 5 rfl (sl 6 rfl (sl 7 rfl sn)))) (el 10 rfl (el 11 rfl (el 12 rfl (el 13 rfl en)))) ?_
  refine tri_seq ?_
  refine tri_seq ?_
  refine tri_reg mixed hcx ?_ _ _
  refine ld rfl rfl tyV rfl ?_
  refine ld rfl rfl tyQ rfl ?_
  refine caf rfl (h := r9_hold_q h hn (by omega) h3) (hn := ?_)
  refine nt rfl _ rfl ?_
  refine mv rfl ?_
  refine ld rfl rfl tyV rfl ?_ (hg := gd1)
  refine ld rfl rfl tyQ rfl ?_ (hg := gd1)
  refine caf rfl (h := r9_hold_q h2 hn2 (by omega) h4) (hn := ?_) (hg := gd1)
  refine nt rfl _ rfl ?_ (hg := gd1)
  refine pk rfl rfl ?_
  refine ⟨by kernel_rfl, ?_⟩
  refine nx (sl 4 rfl (sl 5 rfl (sl 6 rfl (sl 7 rfl (sl 49 rfl sn))))) (el 10 rfl (el 11 rfl (el 12 rfl (el 13 rfl en)))) ?_
  refine tri_true rfl rfl ?_
  refine tri_seq ?_
  refine tri_reg mixed hcx ?_ _ _
  refine asg rfl ?_
  refine ⟨by kernel_rfl, ?_⟩
  refine nx (sl 8 rfl sn) (el 10 rfl (el 11 rfl (el 12 rfl (el 13 rfl en)))) ?_
  refine tri_ret ?_
  repeat (first | refine pn_thenr ?_ | refine pn_blkr ?_)
  exact ret1 hcx rfl (rv_tmp rfl) (.refl _) en

theorem true_ok {a b c d : Option Nat} {m n m2 n2 : Int} {k l : Nat} (h : oLe a b = true) (h2 : oLe c d = true) (hn : 0 < n) (hn2 : 0 < n2) (hk : k ≤ 1073741824) (hl : l ≤ 1073741824) (h3 : (fitsL a ((m : Rat) / (n : Rat)) && fitsH b ((m : Rat) / (n : Rat))) = true) (h4 : (fitsL c ((m2 : Rat) / (n2 : Rat)) && fitsH d ((m2 : Rat) / (n2 : Rat))) = true) (hA : Bx (oLow (oAdd a c)) (oHigh (oAdd b d)) (((m : Rat) / (n : Rat)) + ((m2 : Rat) / (n2 : Rat)))) (hD : Bx (oLow (oSub a d)) (oHigh (oSub b c)) (((m : Rat) / (n : Rat)) - ((m2 : Rat) / (n2 : Rat)))) {L3 H3 L H : Option Nat} (hP : Fn Try.prog 13 [T.st [T.F a, T.F b], T.st [T.F c, T.F d]] [] [] [] (T.tup [T.st [T.F L3, T.F H3], T.c (.int .i64 0)])) (hM : Bx L3 H3 (((m : Rat) / (n : Rat)) * ((m2 : Rat) / (n2 : Rat)))) (hS : Fn Try.prog 14 [T.st [T.F a, T.F b]] [] [] [] (T.tup [T.st [T.F L, T.F H], T.c (.int .i64 0)])) (hQ : Bx L H (((m : Rat) / (n : Rat)) * ((m : Rat) / (n : Rat)))) (hQ0 : oLe (fo 0) L = true) (hc9 : cmS a b c d = true → cmN a b c d = sg (((m : Rat) / (n : Rat)) - ((m2 : Rat) / (n2 : Rat))).num) : Fn Try.prog 3 [T.st [T.F a, T.F b], T.st [T.F c, T.F d], T.Qi m n k, T.Qi m2 n2 l] [] [] [] (T.c (.bool true)) := by
  refine fn_of Try.func3 rfl (by show 4 ≤ 141; decide) fun cx hcx => ?_
  refine tri_sub (sl 0 rfl (sl 1 rfl (sl 2 rfl (sl 3 rfl sn)))) en ?_
  have hb0 : n ≠ 0 := by omega
  have hd0 : n2 ≠ 0 := by omega
  refine tri_seq ?_
  refine tri_reg mixed hcx ?_ _ _
  refine bxs 10 rfl ?_
  refine bxs 11 rfl ?_
  refine bxs 12 rfl ?_
  refine bxs 13 rfl ?_
  refine asg rfl ?_
  refine ⟨by kernel_rfl, ?_⟩
  refine nx (sl 4 rfl (sl 5 rfl (sl 6 rfl (sl 7 rfl sn)))) (el 10 rfl (el 11 rfl (el 12 rfl (el 13 rfl en)))) ?_
  refine tri_seq ?_
  refine tri_seq ?_
  refine tri_reg mixed hcx ?_ _ _
  refine ca rfl (h := l9_awake) (hn := ?_)
  refine nt rfl _ rfl ?_
  refine ⟨by kernel_rfl, ?_⟩
  refine nx (sl 4 rfl (sl 5 rfl (sl 6 rfl (sl 7 rfl (sl 21 rfl sn))))) (el 10 rfl (el 11 rfl (el 12 rfl (el 13 rfl en)))) ?_
  refine tri_false rfl rfl ?_
  refine tri_skip ?_
  refine nx (sl 4 rfl (sl 5 rfl (sl 6 rfl (sl 7 rfl sn)))) (el 10 rfl (el 11 rfl (el 12 rfl (el 13 rfl en)))) ?_
  refine tri_seq ?_
  refine tri_seq ?_
  refine tri_reg mixed hcx ?_ _ _
  refine ld rfl rfl tyV rfl ?_
  refine caf rfl (h := r9_Valid h) (hn := ?_)
  refine nt rfl _ rfl ?_
  refine mv rfl ?_
  refine ld rfl rfl tyV rfl ?_ (hg := gd1)
  refine caf rfl (h := r9_Valid h2) (hn := ?_) (hg := gd1)
  refine nt rfl _ rfl ?_ (hg := gd1)
  refine pk rfl rfl ?_
  refine mv rfl ?_
  refine ld rfl rfl tyQ rfl ?_ (hg := gd1)
  refine ca rfl (h := r03_ValidG (q := true) ⟨fun _ => hn, fun _ => rfl⟩ (by omega)) (hn := ?_) (hg := gd1)
  refine nt rfl _ rfl ?_ (hg := gd1)
  refine pk rfl rfl ?_
  refine mv rfl ?_
  refine ld rfl rfl tyQ rfl ?_ (hg := gd1)
  refine ca rfl (h := r03_ValidG (q := true) ⟨fun _ => hn2, fun _ => rfl⟩ (by omega)) (hn := ?_) (hg := gd1)
  refine nt rfl _ rfl ?_ (hg := gd1)
  refine pk rfl rfl ?_
  refine ⟨by kernel_rfl, ?_⟩
  refine nx (sl 4 rfl (sl 5 rfl (sl 6 rfl (sl 7 rfl (sl 39 rfl sn))))) (el 10 rfl (el 11 rfl (el 12 rfl (el 13 rfl en)))) ?_
  refine tri_false rfl rfl ?_
  refine tri_skip ?_
  refine nx (sl 4 rfl (sl 5 rfl (sl 6 rfl (sl 7 rfl sn)))) (el 10 rfl (el 11 rfl (el 12 rfl (el 13 rfl en)))) ?_
  refine tri_seq ?_
  refine tri_seq ?_
  refine tri_reg mixed hcx ?_ _ _
  refine ld rfl rfl tyV rfl ?_
  refine ld rfl rfl tyQ rfl ?_
  refine caf rfl (h := r9_hold_q h hn (by omega) h3) (hn := ?_)
  refine nt rfl _ rfl ?_
  refine mv rfl ?_
  refine ld rfl rfl tyV rfl ?_ (hg := gd1)
  refine ld rfl rfl tyQ rfl ?_ (hg := gd1)
  refine caf rfl (h := r9_hold_q h2 hn2 (by omega) h4) (hn := ?_) (hg := gd1)
  refine nt rfl _ rfl ?_ (hg := gd1)
  refine pk rfl rfl ?_
  refine ⟨by kernel_rfl, ?_⟩
  refine nx (sl 4 rfl (sl 5 rfl (sl 6 rfl (sl 7 rfl (sl 49 rfl sn))))) (el 10 rfl (el 11 rfl (el 12 rfl (el 13 rfl en)))) ?_
  refine tri_false rfl rfl ?_
  refine tri_skip ?_
  refine nx (sl 4 rfl (sl 5 rfl (sl 6 rfl (sl 7 rfl sn)))) (el 10 rfl (el 11 rfl (el 12 rfl (el 13 rfl en)))) ?_
  refine tri_seq ?_
  refine tri_reg mixed hcx ?_ _ _
  refine ld rfl rfl tyV rfl ?_
  refine ld rfl rfl tyV rfl ?_
  refine caf rfl (h := iv_Add h h2) (hn := ?_)
  refine mv rfl ?_
  refine ex rfl rfl ?_
  refine ex rfl rfl ?_
  refine nw 716 zeV ?_
  refine st rfl rfl rfl tyV rfl ?_
  refine asg rfl ?_
  refine ⟨by kernel_rfl, ?_⟩
  refine nx (sl 4 rfl (sl 5 rfl (sl 6 rfl (sl 7 rfl (sl 9 rfl (sl 10 rfl sn)))))) (el 10 rfl (el 11 rfl (el 12 rfl (el 13 rfl (el 716 rfl en))))) ?_
  refine tri_seq ?_
  refine tri_reg mixed hcx ?_ _ _
  refine ld rfl rfl tyV rfl ?_
  refine ld rfl rfl tyV rfl ?_
  refine caf rfl (h := iv_Sub h h2) (hn := ?_)
  refine mv rfl ?_
  refine ex rfl rfl ?_
  refine ex rfl rfl ?_
  refine nw 816 zeV ?_
  refine st rfl rfl rfl tyV rfl ?_
  refine asg rfl ?_
  refine ⟨by kernel_rfl, ?_⟩
  refine nx (sl 4 rfl (sl 5 rfl (sl 6 rfl (sl 7 rfl (sl 9 rfl (sl 10 rfl (sl 11 rfl (sl 12 rfl sn)))))))) (el 10 rfl (el 11 rfl (el 12 rfl (el 13 rfl (el 716 rfl (el 816 rfl en)))))) ?_
  refine tri_seq ?_
  refine tri_reg mixed hcx ?_ _ _
  refine ld rfl rfl tyV rfl ?_
  refine ld rfl rfl tyV rfl ?_
  refine caf rfl (h := hP) (hn := ?_)
  refine mv rfl ?_
  refine ex rfl rfl ?_
  refine ex rfl rfl ?_
  refine nw 916 zeV ?_
  refine st rfl rfl rfl tyV rfl ?_
  refine asg rfl ?_
  refine ⟨by kernel_rfl, ?_⟩
  refine nx (sl 4 rfl (sl 5 rfl (sl 6 rfl (sl 7 rfl (sl 9 rfl (sl 10 rfl (sl 11 rfl (sl 12 rfl (sl 13 rfl (sl 14 rfl sn)))))))))) (el 10 rfl (el 11 rfl (el 12 rfl (el 13 rfl (el 716 rfl (el 816 rfl (el 916 rfl en))))))) ?_
  refine tri_seq ?_
  refine tri_reg mixed hcx ?_ _ _
  refine ld rfl rfl tyV rfl ?_
  refine caf rfl (h := hS) (hn := ?_)
  refine mv rfl ?_
  refine ex rfl rfl ?_
  refine ex rfl rfl ?_
  refine nw 1015 zeV ?_
  refine sts rfl rfl rfl tyV rfl ?_
  refine asg rfl ?_
  refine ⟨by kernel_rfl, ?_⟩
  refine nx (sl 4 rfl (sl 5 rfl (sl 6 rfl (sl 7 rfl (sl 9 rfl (sl 10 rfl (sl 11 rfl (sl 12 rfl (sl 13 rfl (sl 14 rfl (sl 15 rfl (sl 16 rfl sn)))))))))))) (el 10 rfl (el 11 rfl (el 12 rfl (el 13 rfl (el 716 rfl (el 816 rfl (el 916 rfl (el 1015 rfl en)))))))) ?_
  refine tri_seq ?_
  rcases Bool.eq_false_or_eq_true (cmS a b c d) with h9 | h9
  · refine tri_reg mixed hcx ?_ _ _
    refine ld rfl rfl tyV rfl ?_
    refine ld rfl rfl tyV rfl ?_
    refine caf rfl (h := iv_CmpQ h h2 h9) (hn := ?_)
    refine mv rfl ?_
    refine ex rfl rfl ?_
    refine ex rfl rfl ?_
    refine ex rfl rfl ?_
    refine asg rfl ?_
    refine asg rfl ?_
    refine asg rfl ?_
    refine ⟨by kernel_rfl, ?_⟩
    refine nx (sl 6 rfl (sl 7 rfl (sl 9 rfl (sl 10 rfl (sl 11 rfl (sl 12 rfl (sl 13 rfl (sl 14 rfl (sl 15 rfl (sl 16 rfl (sl 17 rfl (sl 18 rfl (sl 19 rfl sn))))))))))))) (el 10 rfl (el 11 rfl (el 12 rfl (el 13 rfl (el 716 rfl (el 816 rfl (el 916 rfl (el 1015 rfl en)))))))) ?_
    refine tri_seq ?_
    refine tri_seq ?_
    refine tri_reg mixed hcx ?_ _ _
    refine mv rfl ?_
    refine cne rfl rfl (decide_eq_false (by omega)) ?_
    refine mv rfl ?_
    refine mv rfl ?_ (hg := gd1)
    refine cne rfl rfl (decide_eq_false (by omega)) ?_ (hg := gd1)
    refine pk rfl rfl ?_
    refine mv rfl ?_
    refine mv rfl ?_ (hg := gd1)
    refine cne rfl rfl (decide_eq_false (by omega)) ?_ (hg := gd1)
    refine pk rfl rfl ?_
    refine mv rfl ?_
    refine mv rfl ?_ (hg := gd1)
    refine cne rfl rfl (decide_eq_false (by omega)) ?_ (hg := gd1)
    refine pk rfl rfl ?_
    refine mv rfl ?_
    refine mv rfl ?_ (hg := gd1)
    refine cne rfl rfl (decide_eq_false (by omega)) ?_ (hg := gd1)
    refine pk rfl rfl ?_
    refine ⟨by kernel_rfl, ?_⟩
    refine nx (sl 6 rfl (sl 7 rfl (sl 9 rfl (sl 11 rfl (sl 13 rfl (sl 15 rfl (sl 17 rfl (sl 18 rfl (sl 97 rfl sn))))))))) (el 10 rfl (el 11 rfl (el 12 rfl (el 13 rfl (el 716 rfl (el 816 rfl (el 916 rfl (el 1015 rfl en)))))))) ?_
    refine tri_false rfl rfl ?_
    refine tri_skip ?_
    refine nx (sl 6 rfl (sl 7 rfl (sl 9 rfl (sl 11 rfl (sl 13 rfl (sl 15 rfl (sl 17 rfl (sl 18 rfl sn)))))))) (el 10 rfl (el 11 rfl (el 12 rfl (el 13 rfl (el 716 rfl (el 816 rfl (el 916 rfl (el 1015 rfl en)))))))) ?_
    refine tri_seq ?_
    refine tri_seq ?_
    refine tri_reg mixed hcx ?_ _ _
    refine ld rfl rfl tyV rfl ?_
    refine ld rfl rfl tyQ rfl ?_
    refine ld rfl rfl tyQ rfl ?_
    refine ca rfl (h := r03_AddG hb0 hd0 (by omega) (by omega)) (hn := ?_)
    refine caf rfl (h := r9_hold_t hA (rat_nd _) (den_p _) (by omega)) (hn := ?_)
    refine nt rfl _ rfl ?_
    refine mv rfl ?_
    refine ld rfl rfl tyV rfl ?_ (hg := gd1)
    refine ld rfl rfl tyQ rfl ?_ (hg := gd1)
    refine ld rfl rfl tyQ rfl ?_ (hg := gd1)
    refine ca rfl (h := r03_SubG hn hn2 (by omega) (by omega)) (hn := ?_) (hg := gd1)
    refine caf rfl (h := r9_hold_t hD (rat_nd _) (den_p _) (by omega)) (hn := ?_) (hg := gd1)
    refine nt rfl _ rfl ?_ (hg := gd1)
    refine pk rfl rfl ?_
    refine ⟨by kernel_rfl, ?_⟩
    refine nx (sl 6 rfl (sl 7 rfl (sl 13 rfl (sl 15 rfl (sl 17 rfl (sl 18 rfl (sl 111 rfl sn))))))) (el 10 rfl (el 11 rfl (el 12 rfl (el 13 rfl (el 716 rfl (el 816 rfl (el 916 rfl (el 1015 rfl en)))))))) ?_
    refine tri_false rfl rfl ?_
    refine tri_skip ?_
    refine nx (sl 6 rfl (sl 7 rfl (sl 13 rfl (sl 15 rfl (sl 17 rfl (sl 18 rfl sn)))))) (el 10 rfl (el 11 rfl (el 12 rfl (el 13 rfl (el 716 rfl (el 816 rfl (el 916 rfl (el 1015 rfl en)))))))) ?_
    refine tri_seq ?_
    refine tri_seq ?_
    refine tri_reg mixed hcx ?_ _ _
    refine ld rfl rfl tyV rfl ?_
    refine ld rfl rfl tyQ rfl ?_
    refine ld rfl rfl tyQ rfl ?_
    refine ca rfl (h := r03_MulG hb0 hd0 (by omega) (by omega)) (hn := ?_)
    refine caf rfl (h := r9_hold_t hM (rat_nd _) (den_p _) (by omega)) (hn := ?_)
    refine nt rfl _ rfl ?_
    refine mv rfl ?_
    refine ld rfl rfl tyV rfl ?_ (hg := gd1)
    refine ld rfl rfl tyQ rfl ?_ (hg := gd1)
    refine ld rfl rfl tyQ rfl ?_ (hg := gd1)
    refine ca rfl (h := r03_MulG hb0 hb0 (by omega) (by omega)) (hn := ?_) (hg := gd1)
    refine caf rfl (h := r9_hold_t hQ (rat_nd _) (den_p _) (by omega)) (hn := ?_) (hg := gd1)
    refine nt rfl _ rfl ?_ (hg := gd1)
    refine pk rfl rfl ?_
    refine mv rfl ?_
    refine fa rfl fLo 0 ?_ (hg := gd1)
    refine ld rfl rfl tyF rfl ?_ (hg := gd1)
    refine fge rfl rfl hQ0 ?_ (hg := gd1)
    refine nt rfl _ rfl ?_ (hg := gd1)
    refine pk rfl rfl ?_
    refine ⟨by kernel_rfl, ?_⟩
    refine nx (sl 6 rfl (sl 7 rfl (sl 17 rfl (sl 18 rfl (sl 131 rfl sn))))) (el 10 rfl (el 11 rfl (el 12 rfl (el 13 rfl (el 716 rfl (el 816 rfl (el 916 rfl (el 1015 rfl en)))))))) ?_
    refine tri_false rfl rfl ?_
    refine tri_skip ?_
    refine nx (sl 6 rfl (sl 7 rfl (sl 17 rfl (sl 18 rfl sn)))) (el 10 rfl (el 11 rfl (el 12 rfl (el 13 rfl (el 716 rfl (el 816 rfl (el 916 rfl (el 1015 rfl en)))))))) ?_
    refine tri_seq ?_
    refine tri_reg mixed hcx ?_ _ _
    refine mv rfl ?_
    refine nt rfl _ rfl ?_
    refine mv rfl ?_
    refine mv rfl ?_ (hg := gd1)
    refine ld rfl rfl tyQ rfl ?_ (hg := gd1)
    refine ld rfl rfl tyQ rfl ?_ (hg := gd1)
    refine ca rfl (h := r03_CmpG hn hn2 (by omega) (by omega)) (hn := ?_) (hg := gd1)
    refine ceq rfl rfl (decide_eq_true (hc9 h9)) ?_ (hg := gd1)
    refine pk rfl rfl ?_
    refine asg rfl ?_
    refine ⟨by kernel_rfl, ?_⟩
    refine nx (sl 8 rfl sn) (el 10 rfl (el 11 rfl (el 12 rfl (el 13 rfl (el 716 rfl (el 816 rfl (el 916 rfl (el 1015 rfl en)))))))) ?_
    refine tri_ret ?_
    repeat (first | refine pn_thenr ?_ | refine pn_blkr ?_)
    exact ret1 hcx rfl (rv_tmp rfl) (.refl _) en
  · refine tri_reg mixed hcx ?_ _ _
    refine ld rfl rfl tyV rfl ?_
    refine ld rfl rfl tyV rfl ?_
    refine caf rfl (h := iv_CmpQ h h2 h9) (hn := ?_)
    refine mv rfl ?_
    refine ex rfl rfl ?_
    refine ex rfl rfl ?_
    refine ex rfl rfl ?_
    refine asg rfl ?_
    refine asg rfl ?_
    refine asg rfl ?_
    refine ⟨by kernel_rfl, ?_⟩
    refine nx (sl 6 rfl (sl 7 rfl (sl 9 rfl (sl 10 rfl (sl 11 rfl (sl 12 rfl (sl 13 rfl (sl 14 rfl (sl 15 rfl (sl 16 rfl (sl 17 rfl (sl 18 rfl (sl 19 rfl sn))))))))))))) (el 10 rfl (el 11 rfl (el 12 rfl (el 13 rfl (el 716 rfl (el 816 rfl (el 916 rfl (el 1015 rfl en)))))))) ?_
    refine tri_seq ?_
    refine tri_seq ?_
    refine tri_reg mixed hcx ?_ _ _
    refine mv rfl ?_
    refine cne rfl rfl (decide_eq_false (by omega)) ?_
    refine mv rfl ?_
    refine mv rfl ?_ (hg := gd1)
    refine cne rfl rfl (decide_eq_false (by omega)) ?_ (hg := gd1)
    refine pk rfl rfl ?_
    refine mv rfl ?_
    refine mv rfl ?_ (hg := gd1)
    refine cne rfl rfl (decide_eq_false (by omega)) ?_ (hg := gd1)
    refine pk rfl rfl ?_
    refine mv rfl ?_
    refine mv rfl ?_ (hg := gd1)
    refine cne rfl rfl (decide_eq_false (by omega)) ?_ (hg := gd1)
    refine pk rfl rfl ?_
    refine mv rfl ?_
    refine mv rfl ?_ (hg := gd1)
    refine cne rfl rfl (decide_eq_false (by omega)) ?_ (hg := gd1)
    refine pk rfl rfl ?_
    refine ⟨by kernel_rfl, ?_⟩
    refine nx (sl 6 rfl (sl 7 rfl (sl 9 rfl (sl 11 rfl (sl 13 rfl (sl 15 rfl (sl 17 rfl (sl 18 rfl (sl 97 rfl sn))))))))) (el 10 rfl (el 11 rfl (el 12 rfl (el 13 rfl (el 716 rfl (el 816 rfl (el 916 rfl (el 1015 rfl en)))))))) ?_
    refine tri_false rfl rfl ?_
    refine tri_skip ?_
    refine nx (sl 6 rfl (sl 7 rfl (sl 9 rfl (sl 11 rfl (sl 13 rfl (sl 15 rfl (sl 17 rfl (sl 18 rfl sn)))))))) (el 10 rfl (el 11 rfl (el 12 rfl (el 13 rfl (el 716 rfl (el 816 rfl (el 916 rfl (el 1015 rfl en)))))))) ?_
    refine tri_seq ?_
    refine tri_seq ?_
    refine tri_reg mixed hcx ?_ _ _
    refine ld rfl rfl tyV rfl ?_
    refine ld rfl rfl tyQ rfl ?_
    refine ld rfl rfl tyQ rfl ?_
    refine ca rfl (h := r03_AddG hb0 hd0 (by omega) (by omega)) (hn := ?_)
    refine caf rfl (h := r9_hold_t hA (rat_nd _) (den_p _) (by omega)) (hn := ?_)
    refine nt rfl _ rfl ?_
    refine mv rfl ?_
    refine ld rfl rfl tyV rfl ?_ (hg := gd1)
    refine ld rfl rfl tyQ rfl ?_ (hg := gd1)
    refine ld rfl rfl tyQ rfl ?_ (hg := gd1)
    refine ca rfl (h := r03_SubG hn hn2 (by omega) (by omega)) (hn := ?_) (hg := gd1)
    refine caf rfl (h := r9_hold_t hD (rat_nd _) (den_p _) (by omega)) (hn := ?_) (hg := gd1)
    refine nt rfl _ rfl ?_ (hg := gd1)
    refine pk rfl rfl ?_
    refine ⟨by kernel_rfl, ?_⟩
    refine nx (sl 6 rfl (sl 7 rfl (sl 13 rfl (sl 15 rfl (sl 17 rfl (sl 18 rfl (sl 111 rfl sn))))))) (el 10 rfl (el 11 rfl (el 12 rfl (el 13 rfl (el 716 rfl (el 816 rfl (el 916 rfl (el 1015 rfl en)))))))) ?_
    refine tri_false rfl rfl ?_
    refine tri_skip ?_
    refine nx (sl 6 rfl (sl 7 rfl (sl 13 rfl (sl 15 rfl (sl 17 rfl (sl 18 rfl sn)))))) (el 10 rfl (el 11 rfl (el 12 rfl (el 13 rfl (el 716 rfl (el 816 rfl (el 916 rfl (el 1015 rfl en)))))))) ?_
    refine tri_seq ?_
    refine tri_seq ?_
    refine tri_reg mixed hcx ?_ _ _
    refine ld rfl rfl tyV rfl ?_
    refine ld rfl rfl tyQ rfl ?_
    refine ld rfl rfl tyQ rfl ?_
    refine ca rfl (h := r03_MulG hb0 hd0 (by omega) (by omega)) (hn := ?_)
    refine caf rfl (h := r9_hold_t hM (rat_nd _) (den_p _) (by omega)) (hn := ?_)
    refine nt rfl _ rfl ?_
    refine mv rfl ?_
    refine ld rfl rfl tyV rfl ?_ (hg := gd1)
    refine ld rfl rfl tyQ rfl ?_ (hg := gd1)
    refine ld rfl rfl tyQ rfl ?_ (hg := gd1)
    refine ca rfl (h := r03_MulG hb0 hb0 (by omega) (by omega)) (hn := ?_) (hg := gd1)
    refine caf rfl (h := r9_hold_t hQ (rat_nd _) (den_p _) (by omega)) (hn := ?_) (hg := gd1)
    refine nt rfl _ rfl ?_ (hg := gd1)
    refine pk rfl rfl ?_
    refine mv rfl ?_
    refine fa rfl fLo 0 ?_ (hg := gd1)
    refine ld rfl rfl tyF rfl ?_ (hg := gd1)
    refine fge rfl rfl hQ0 ?_ (hg := gd1)
    refine nt rfl _ rfl ?_ (hg := gd1)
    refine pk rfl rfl ?_
    refine ⟨by kernel_rfl, ?_⟩
    refine nx (sl 6 rfl (sl 7 rfl (sl 17 rfl (sl 18 rfl (sl 131 rfl sn))))) (el 10 rfl (el 11 rfl (el 12 rfl (el 13 rfl (el 716 rfl (el 816 rfl (el 916 rfl (el 1015 rfl en)))))))) ?_
    refine tri_false rfl rfl ?_
    refine tri_skip ?_
    refine nx (sl 6 rfl (sl 7 rfl (sl 17 rfl (sl 18 rfl sn)))) (el 10 rfl (el 11 rfl (el 12 rfl (el 13 rfl (el 716 rfl (el 816 rfl (el 916 rfl (el 1015 rfl en)))))))) ?_
    refine tri_seq ?_
    refine tri_reg mixed hcx ?_ _ _
    refine mv rfl ?_
    refine nt rfl _ rfl ?_
    refine mv rfl ?_
    refine j_off rfl rfl rfl rfl ?_
    refine j_off rfl rfl rfl rfl ?_
    refine j_off rfl rfl rfl rfl ?_
    refine j_off rfl rfl rfl rfl ?_
    refine j_off rfl rfl rfl rfl ?_
    refine pk rfl rfl ?_
    refine asg rfl ?_
    refine ⟨by kernel_rfl, ?_⟩
    refine nx (sl 8 rfl sn) (el 10 rfl (el 11 rfl (el 12 rfl (el 13 rfl (el 716 rfl (el 816 rfl (el 916 rfl (el 1015 rfl en)))))))) ?_
    refine tri_ret ?_
    repeat (first | refine pn_thenr ?_ | refine pn_blkr ?_)
    exact ret1 hcx rfl (rv_tmp rfl) (.refl _) en

/-- The square and what it holds. -/
theorem sqr_so {p q : Nat} (np : NumF p) (nq : NumF q) (h : oLe (some p) (some q) = true) {v : Rat} (h1 : FL (Fl.key p) v) (h2 : FH (Fl.key q) v) : ∃ L H, Fn Try.prog 14 [T.st [T.F (some p), T.F (some q)]] [] [] [] (T.tup [T.st [T.F L, T.F H], T.c (.int .i64 0)]) ∧ Bx L H (v * v) ∧ oLe (fo 0) L = true := by
  obtain ⟨x, ex, nx⟩ := tim_num np np
  obtain ⟨y, ey, ny⟩ := tim_num nq nq
  obtain ⟨m, hm, nm, hm1, hm2, hm3⟩ := min_num nx ny
  obtain ⟨M, hM, nM, hM1, hM2, hM3⟩ := max_num nx ny
  have ew : oDn (some m) = some (Fl.ng (Fl.up (Fl.ng m))) := rfl
  have nw' := num_dn nm
  generalize Fl.ng (Fl.up (Fl.ng m)) = w at ew nw'
  have hi := (sq_hi np nq ex ey nx ny hM h1 h2).2
  have lo := fun hc => sq_lo np nq ex ey nx ny hm ew nw' hc h1 h2
  rcases crs_cases (some p) (some q) with ⟨k1, k2⟩ | ⟨k1, k2⟩ | k1
  · have := bx_sq0 (w := w) nM hi
    exact ⟨_, _, iv_Sqr_c1 h ex ey nx ny hm hM ew nw' k1 k2, this.1, this.2⟩
  · have hc : Fl.key q ≤ 0 := by
      rw [z_le] at k2
      have := of_decide_eq_false k2
      omega
    have := bx_sq1 nM nw' (lo (.inr hc)) hi
    exact ⟨_, _, iv_Sqr_c2 h ex ey nx ny hm hM ew nw' k1 k2, this.1, this.2⟩
  · have hc : 0 ≤ Fl.key p := by
      rw [le_z] at k1
      have := of_decide_eq_false k1
      omega
    have := bx_sq1 nM nw' (lo (.inl hc)) hi
    exact ⟨_, _, iv_Sqr_c3 h ex ey nx ny hm hM ew nw' k1, this.1, this.2⟩
/-- The law, of all intervals and fractions. -/
theorem true_all {a b c d : Option Nat} {m n m2 n2 : Int} {k l : Nat} (hk : k ≤ 1073741824) (hl : l ≤ 1073741824) : Fn Try.prog 3 [T.st [T.F a, T.F b], T.st [T.F c, T.F d], T.Qi m n k, T.Qi m2 n2 l] [] [] [] (T.c (.bool true)) := by
  refine fn_word fun ha hb => fn_word2 fun hc hd => ?_
  cases h1 : oLe a b
  · exact true_a h1
  cases h2 : oLe c d
  · exact true_b h1 h2
  by_cases hn : 0 < n
  · by_cases hn2 : 0 < n2
    · cases h3 : (fitsL a ((m : Rat) / (n : Rat)) && fitsH b ((m : Rat) / (n : Rat)))
      · exact true_na h1 h2 hn hn2 hk hl h3
      cases h4 : (fitsL c ((m2 : Rat) / (n2 : Rat)) && fitsH d ((m2 : Rat) / (n2 : Rat)))
      · exact true_nb h1 h2 hn hn2 hk hl h3 h4
      obtain ⟨p, q, ea, eb⟩ := le_some h1
      obtain ⟨r, s, ec, ed⟩ := le_some h2
      have np := num_of ha ea
      have nq := num_of hb eb
      have nr := num_of hc ec
      have ns := num_of hd ed
      subst ea; subst eb; subst ec; subst ed
      have k3 := h3
      have k4 := h4
      rw [Bool.and_eq_true] at k3 k4
      have f1 := (fitsL_FL np _).1 k3.1
      have f2 := (fitsH_FH nq _).1 k3.2
      have f3 := (fitsL_FL nr _).1 k4.1
      have f4 := (fitsH_FH ns _).1 k4.2
      obtain ⟨L, H, hS, hQ, hQ0⟩ := sqr_so np nq h1 f1 f2
      obtain ⟨x0, e0, n0⟩ := tim_num np nr
      obtain ⟨x1, e1, n1⟩ := tim_num np ns
      obtain ⟨x2, e2, n2'⟩ := tim_num nq nr
      obtain ⟨x3, e3, n3⟩ := tim_num nq ns
      obtain ⟨mm, hm⟩ := lst_ex (pk4 x0 x1 x2 x3) 3
      obtain ⟨M, hM⟩ := mst_ex (pk4 x0 x1 x2 x3) 3
      exact true_ok h1 h2 hn hn2 hk hl h3 h4 (bx_add np nq nr ns f1 f2 f3 f4) (bx_sub np nq nr ns f1 f2 f3 f4) (iv_Mul e0 e1 e2 e3 n0 n1 n2' n3 hm hM h1 h2) (bx_mul np nq nr ns e0 e1 e2 e3 n0 n1 n2' n3 hm hM f1 f2 f3 f4) hS hQ hQ0 (fun h9 => cmp_so np nq nr ns f1 f2 f3 f4 h9)
    · exact true_y h1 h2 hn hn2 hk hl
  · exact true_x h1 h2 hn hk hl
end Go.Proofs.Ytlmiadjogdfjkaa.V
