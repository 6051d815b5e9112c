/- Floats as fractions; the law of the floats beside each float. -/
import Derived.Test.YtlmiadjogdfjkaaKI
import Derived.Test.YtlmiadjogdfjkaaGn
set_option linter.unusedVariables false
set_option linter.unusedSimpArgs false
set_option maxRecDepth 100000
namespace Go.Proofs.Ytlmiadjogdfjkaa.V
open Go.RowKit Mt Nml
theorem fmt_z {b : Nat} (h : fe b = 0) : fmt b = fm b := if_pos h
theorem fmt_p {b : Nat} (h : fe b ≠ 0) : fmt b = fm b + 4503599627370496 := if_neg h
theorem fex_z {b : Nat} (h : fe b = 0) : fex b = 1 := if_pos h
theorem fex_p {b : Nat} (h : fe b ≠ 0) : fex b = fe b := if_neg h
theorem lt0' {b : Nat} (hb : b < 18446744073709551616) (hn : Fl.isN b = false) : oLt (fo b) (fo 0) = decide (9223372036854775808 < b) := by
  by_cases h : b = 0 ∨ b = 9223372036854775808
  · rw [← fo_lt]
    rcases h with rfl | rfl <;> decide
  · rw [lt0 hb hn h]
    exact decide_eq_decide.2 (by omega)
theorem fz_neg {b : Nat} (h : 9223372036854775808 < b) : fz b = -(fmt b : Int) := if_neg (by omega)
theorem fz_pos {b : Nat} (h : ¬ 9223372036854775808 < b) : fz b = (fmt b : Int) := by
  unfold fz
  split
  · rfl
  · have : b = 9223372036854775808 := by omega
    subst this; decide
theorem fz_sign {b : Nat} : fz b = iv (decide (9223372036854775808 ≤ b)) (fmt b) := by
  unfold fz iv
  by_cases h : b < 9223372036854775808
  · rw [if_pos h, decide_eq_false (by omega)]; rfl
  · rw [if_neg h, decide_eq_true (by omega)]; rfl
theorem div_one' (x : Rat) : x / ((1 : Int) : Rat) = x := by rw [show ((1 : Int) : Rat) = 1 from rfl]; grind
theorem fq_up {b : Nat} (h : 1075 ≤ fex b) : ((fz b * ((2 ^ (fex b - 1075) : Nat) : Int) : Int) : Rat) = fq b := (if_pos h).symm
theorem fq_dn {b : Nat} (h : ¬ 1075 ≤ fex b) : ((fz b : Int) : Rat) / (((2 ^ (1075 - fex b) : Nat) : Int) : Rat) = fq b := (if_neg h).symm
theorem oq_fin {b : Nat} (hn : Fl.isN b = false) (h : Fl.rung b ≠ 9218868437227405312) : oq (fo b) = fq b := by rw [fo_s hn]; exact if_neg h
theorem oq_inf {b : Nat} (hn : Fl.isN b = false) (h : Fl.rung b = 9218868437227405312) : oq (fo b) = 0 := by rw [fo_s hn]; exact if_pos h
theorem oq_nan {b : Nat} (hn : Fl.isN b = true) : oq (fo b) = 0 := by rw [fo_n hn]; rfl
theorem fin_t {b : Nat} (hn : Fl.isN b = false) (h : Fl.rung b ≠ 9218868437227405312) : oFin (fo b) = true := by rw [fo_s hn]; exact decide_eq_true h
theorem fin_i {b : Nat} (hn : Fl.isN b = false) (h : Fl.rung b = 9218868437227405312) : oFin (fo b) = false := by rw [fo_s hn]; exact decide_eq_false (fun k => k h)
theorem fin_n {b : Nat} (hn : Fl.isN b = true) : oFin (fo b) = false := by rw [fo_n hn]; rfl
theorem inf0_t {b : Nat} (hb : b < 18446744073709551616) (hn : Fl.isN b = false) (h : Fl.rung b = 9218868437227405312) : oInf 0 (fo b) = true := by
  rw [fo_s hn]
  refine decide_eq_true ?_
  rw [Fl.rung_of hb] at h
  split at h <;> omega
theorem inf0_f {b : Nat} (hb : b < 18446744073709551616) (hn : Fl.isN b = false) (h : Fl.rung b ≠ 9218868437227405312) : oInf 0 (fo b) = false := by
  rw [fo_s hn]
  refine decide_eq_false ?_
  rw [Fl.rung_of hb] at h
  split at h <;> omega
theorem ex_out {b : Nat} {q : Rat} {k : Nat} {p : Bool} (h : q = oq (fo b)) (hk : k ≤ 80) (hp : p = oFin (fo b)) : (T.tup [T.Q q k, T.c (.bool p)]).le (T.tup [T.Q (oq (fo b)) 80, T.c (.bool (oFin (fo b)))]) := tup_le ⟨q_eq h hk, .of (by rw [hp]), trivial⟩
theorem b_cases {b : Nat} (hb : b < 18446744073709551616) : Fl.isN b = true ∨ (Fl.isN b = false ∧ Fl.rung b = 9218868437227405312) ∨ (Fl.isN b = false ∧ Fl.rung b ≠ 9218868437227405312) := by
  cases h : Fl.isN b
  · by_cases h2 : Fl.rung b = 9218868437227405312
    · exact .inr (.inl ⟨rfl, h2⟩)
    · exact .inr (.inr ⟨rfl, h2⟩)
  · exact .inl rfl
theorem two_lims {m : Nat} (h : m < 9007199254740992) : Lim [((m % 4294967296 : Nat) : Int), ((m / 4294967296 : Nat) : Int)] ∧ val [((m % 4294967296 : Nat) : Int), ((m / 4294967296 : Nat) : Int)] = ((m : Nat) : Int) ∧ ([((m % 4294967296 : Nat) : Int), ((m / 4294967296 : Nat) : Int)] : List Int).length ≤ 2 :=
  ⟨by intro x hx; simp only [List.mem_cons, List.not_mem_nil, or_false] at hx; rcases hx with rfl | rfl <;> omega, by simp only [val]; omega, Nat.le_refl 2⟩

theorem iv_Exact {o : Option Nat} : Fn Try.prog 26 [T.F o] [] [] [] (T.tup [T.Q (oq o) 80, T.c (.bool (oFin o))]) := by
  refine fn_of Try.func26 rfl (by show 1 ≤ 64; decide) fun cx hcx => ?_
  refine tri_sub (sl 0 rfl sn) en ?_
  refine tri_ex 0 rfl fun b ⟨hb, hf⟩ => ?_
  subst hf
  have ib : BLt b := ⟨hb⟩
  have hfm : fm b = b % 4503599627370496 := rfl
  have hfe : fe b = b / 4503599627370496 % 2048 := rfl
  have hrg : Fl.rung b = b % 9223372036854775808 := rfl
  refine tri_seq ?_
  refine tri_reg mixed hcx ?_ _ _
  refine nw 10 zeQ ?_
  refine asg rfl ?_
  refine ⟨by kernel_rfl, ?_⟩
  refine nx (sl 0 rfl (sl 2 rfl sn)) (el 10 rfl en) ?_
  refine tri_seq ?_
  refine tri_seq ?_
  rcases b_cases hb with hn | ⟨hn, hh⟩ | ⟨hn, hh⟩
  · refine tri_reg mixed hcx ?_ _ _
    refine mv rfl ?_
    refine mv rfl ?_
    refine fne rfl rfl (ne_self.trans hn) ?_
    refine mv rfl ?_
    refine j_off rfl rfl rfl rfl ?_
    refine j_off rfl rfl rfl rfl ?_
    refine pk rfl rfl ?_
    refine ⟨by kernel_rfl, ?_⟩
    refine nx (sl 0 rfl (sl 2 rfl (sl 17 rfl sn))) (el 10 rfl en) ?_
    refine tri_true rfl rfl ?_
    refine tri_seq ?_
    refine tri_reg mixed hcx ?_ _ _
    refine ca rfl (h := zi_Of (by omega) (by omega)) (hn := ?_)
    refine ca rfl (h := rat_Of (by omega)) (hn := ?_)
    refine st rfl rfl rfl tyQ rfl ?_
    refine asg rfl ?_
    refine ⟨by kernel_rfl, ?_⟩
    refine nx (sl 2 rfl (sl 3 rfl sn)) (el 10 rfl en) ?_
    refine tri_ret ?_
    repeat (first | refine pn_thenr ?_ | refine pn_blkr ?_)
    exact ret2 hcx rfl (rv_cell (c' := cx) (n := 0) rfl rfl tyQ rfl) (rv_tmp rfl) (ex_out (oq_nan hn).symm (by omega) (fin_n hn).symm) en
  · have h1 := hh
    refine tri_reg mixed hcx ?_ _ _
    refine mv rfl ?_
    refine mv rfl ?_
    refine fne rfl rfl (ne_self.trans hn) ?_
    refine mv rfl ?_
    refine mv rfl ?_ (hg := gd1)
    refine caf rfl (h := (fn_out c_IsInf0 (.of (by rw [inf0_t hb hn h1])))) (hn := ?_) (hg := gd1)
    refine pk rfl rfl ?_
    refine ⟨by kernel_rfl, ?_⟩
    refine nx (sl 0 rfl (sl 2 rfl (sl 17 rfl sn))) (el 10 rfl en) ?_
    refine tri_true rfl rfl ?_
    refine tri_seq ?_
    refine tri_reg mixed hcx ?_ _ _
    refine ca rfl (h := zi_Of (by omega) (by omega)) (hn := ?_)
    refine ca rfl (h := rat_Of (by omega)) (hn := ?_)
    refine st rfl rfl rfl tyQ rfl ?_
    refine asg rfl ?_
    refine ⟨by kernel_rfl, ?_⟩
    refine nx (sl 2 rfl (sl 3 rfl sn)) (el 10 rfl en) ?_
    refine tri_ret ?_
    repeat (first | refine pn_thenr ?_ | refine pn_blkr ?_)
    exact ret2 hcx rfl (rv_cell (c' := cx) (n := 0) rfl rfl tyQ rfl) (rv_tmp rfl) (ex_out (oq_inf hn h1).symm (by omega) (fin_i hn h1).symm) en
  · have hf1 : fmt b < 9007199254740992 := by unfold fmt; split <;> omega
    have hf2 : 1 ≤ fex b ∧ fex b ≤ 2047 := by unfold fex; split <;> omega
    have hz1 : -9007199254740992 < fz b ∧ fz b < 9007199254740992 := by unfold fz; split <;> omega
    have hf3 : fe b ≤ 2046 := by have : Fl.rung b ≤ 9218868437227405312 := by { rcases fo_cases hb with ⟨h, _⟩ | ⟨_, _, h⟩; exact absurd h (by rw [hn]; decide); exact h }; omega
    refine tri_reg mixed hcx ?_ _ _
    refine mv rfl ?_
    refine mv rfl ?_
    refine fne rfl rfl (ne_self.trans hn) ?_
    refine mv rfl ?_
    refine mv rfl ?_ (hg := gd1)
    refine caf rfl (h := (fn_out c_IsInf0 (.of (by rw [inf0_f hb hn hh])))) (hn := ?_) (hg := gd1)
    refine pk rfl rfl ?_
    refine ⟨by kernel_rfl, ?_⟩
    refine nx (sl 0 rfl (sl 2 rfl (sl 17 rfl sn))) (el 10 rfl en) ?_
    refine tri_false rfl rfl ?_
    refine tri_skip ?_
    refine nx (sl 0 rfl (sl 2 rfl sn)) (el 10 rfl en) ?_
    refine tri_seq ?_
    refine tri_reg mixed hcx ?_ _ _
    refine mv rfl ?_
    refine xt rfl (run_f64bits _) ?_
    refine asg rfl ?_
    refine ⟨by kernel_rfl, ?_⟩
    refine nx (sl 0 rfl (sl 2 rfl (sl 4 rfl sn))) (el 10 rfl en) ?_
    refine tri_seq ?_
    refine tri_reg mixed hcx ?_ _ _
    refine mv rfl ?_
    refine ban ((fm b : Nat) : Int) rfl rfl (and_mask 52 hb (by decide) rfl) ?_
    refine cvt _ rfl cvU64I64 rfl ⟨rfl, by omega, by omega⟩ ?_
    refine mv rfl ?_
    refine shR (s := 52) (((b / 4503599627370496 : Nat) : Int)) rfl rfl rfl ⟨by omega, by omega, by decide⟩ ?_
    refine ban ((fe b : Nat) : Int) rfl rfl (and_mask 11 (by omega) (by decide) rfl) ?_
    refine cvt _ rfl cvU64I rfl ⟨rfl, by omega, by omega⟩ ?_
    refine asg rfl ?_
    refine asg rfl ?_
    refine ⟨by kernel_rfl, ?_⟩
    refine nx (sl 0 rfl (sl 2 rfl (sl 5 rfl (sl 6 rfl sn)))) (el 10 rfl en) ?_
    refine tri_join (ι := Unit) (fun _ => [(0, T.c (.float .f64 b)), (2, T.p 10 0), (5, T.c (.int .i64 ((fmt b : Nat) : Int))), (6, T.c (.int .i64 ((fex b : Nat) : Int)))]) (fun _ => [(10, some (Ent.box 29 [T.c (.bool false), T.c (.slice none 0 0), T.c (.bool false), T.c (.slice none 0 0)]))]) (fun _ => True) ?_ ?_
    · refine tri_seq ?_
      refine tri_reg mixed hcx ?_ _ _
      refine mv rfl ?_
      refine ceq rfl rfl rfl ?_
      refine ⟨by kernel_rfl, ?_⟩
      refine nx (sl 0 rfl (sl 2 rfl (sl 5 rfl (sl 6 rfl (sl 30 rfl sn))))) (el 10 rfl en) ?_
      refine tri_if rfl (fun hc => ?_) (fun hc => ?_)
      · refine tri_reg mixed hcx ?_ _ _
        refine asg rfl ?_
        refine ⟨by kernel_rfl, ?_⟩
        first | exact pn_join () trivial (sl 0 rfl (sl 2 rfl (sw 5 rfl (ci (by rw [fmt_z (by omega)])) (sw 6 rfl (ci (by rw [fex_z (by omega)]; rfl)) sn)))) (el 10 rfl en) | exact pn_join () trivial (sl 0 rfl (sl 2 rfl (sw 5 rfl (ci (by rw [fmt_p (by omega)])) (sw 6 rfl (ci (by rw [fex_p (by omega)])) sn)))) (el 10 rfl en)
      · refine tri_reg mixed hcx ?_ _ _
        refine mv rfl ?_
        refine orr (((fm b + 4503599627370496 : Nat) : Int)) rfl rfl (or_i64 (by omega)) ?_
        refine asg rfl ?_
        refine ⟨by kernel_rfl, ?_⟩
        first | exact pn_join () trivial (sl 0 rfl (sl 2 rfl (sw 5 rfl (ci (by rw [fmt_z (by omega)])) (sw 6 rfl (ci (by rw [fex_z (by omega)]; rfl)) sn)))) (el 10 rfl en) | exact pn_join () trivial (sl 0 rfl (sl 2 rfl (sw 5 rfl (ci (by rw [fmt_p (by omega)])) (sw 6 rfl (ci (by rw [fex_p (by omega)])) sn)))) (el 10 rfl en)
    · rintro _ _
      refine tri_sub (sl 0 rfl (sl 2 rfl (sl 5 rfl (sl 6 rfl sn)))) (el 10 rfl en) ?_
      refine tri_join (ι := Unit) (fun _ => [(2, T.p 10 0), (5, T.c (.int .i64 (fz b))), (6, T.c (.int .i64 ((fex b : Nat) : Int)))]) (fun _ => [(10, some (Ent.box 29 [T.c (.bool false), T.c (.slice none 0 0), T.c (.bool false), T.c (.slice none 0 0)]))]) (fun _ => True) ?_ ?_
      · refine tri_seq ?_
        refine tri_reg mixed hcx ?_ _ _
        refine mv rfl ?_
        refine flt rfl rfl (lt0' hb hn) ?_
        refine ⟨by kernel_rfl, ?_⟩
        refine nx (sl 2 rfl (sl 5 rfl (sl 6 rfl (sl 34 rfl sn)))) (el 10 rfl en) ?_
        refine tri_if rfl (fun h34 => ?_) (fun h34 => ?_)
        · refine tri_reg mixed hcx ?_ _ _
          refine mv rfl ?_
          refine ng (-(fmt b : Int)) rfl rfl (by omega) ?_
          refine asg rfl ?_
          refine ⟨by kernel_rfl, ?_⟩
          first | exact pn_join () trivial (sl 2 rfl (sw 5 rfl (ci (fz_neg (by assumption)).symm) (sl 6 rfl sn))) (el 10 rfl en) | exact pn_join () trivial (sl 2 rfl (sw 5 rfl (ci (fz_pos (by assumption)).symm) (sl 6 rfl sn))) (el 10 rfl en)
        · refine tri_skip ?_
          first | exact pn_join () trivial (sl 2 rfl (sw 5 rfl (ci (fz_neg (by assumption)).symm) (sl 6 rfl sn))) (el 10 rfl en) | exact pn_join () trivial (sl 2 rfl (sw 5 rfl (ci (fz_pos (by assumption)).symm) (sl 6 rfl sn))) (el 10 rfl en)
      · rintro _ _
        refine tri_sub (sl 2 rfl (sl 5 rfl (sl 6 rfl sn))) (el 10 rfl en) ?_
        refine tri_seq ?_
        refine tri_reg mixed hcx ?_ _ _
        refine mv rfl ?_
        refine sb ((fex b : Int) - 1075) rfl rfl rfl (by omega) ?_
        refine asg rfl ?_
        refine ⟨by kernel_rfl, ?_⟩
        refine nx (sl 2 rfl (sl 5 rfl (sl 6 rfl sn))) (el 10 rfl en) ?_
        refine tri_seq ?_
        refine tri_reg mixed hcx ?_ _ _
        refine mv rfl ?_
        refine ca rfl (h := zi_Of (by omega) (by omega)) (hn := ?_)
        refine ca rfl (h := zi_Of (by omega) (by omega)) (hn := ?_)
        refine nw 1113 zeZ ?_
        refine nw 1114 zeZ ?_
        refine st rfl rfl rfl tyZ rfl ?_
        refine st rfl rfl rfl tyZ rfl ?_
        refine ⟨by kernel_rfl, ?_⟩
        refine nx (sl 2 rfl (sl 6 rfl (sl 7 rfl (sl 8 rfl sn)))) (el 10 rfl (el 1113 rfl (el 1114 rfl en))) ?_
        refine tri_seq ?_
        refine tri_seq ?_
        refine tri_reg mixed hcx ?_ _ _
        refine mv rfl ?_
        refine cge rfl rfl rfl ?_
        refine ⟨by kernel_rfl, ?_⟩
        refine nx (sl 2 rfl (sl 6 rfl (sl 7 rfl (sl 8 rfl (sl 43 rfl sn))))) (el 10 rfl (el 1113 rfl (el 1114 rfl en))) ?_
        refine tri_if rfl (fun h43 => ?_) (fun h43 => ?_)
        · refine tri_as 6 (Z := T.c (.int .i64 ((fex b - 1075 : Nat) : Int))) rfl (ci (by omega)) ?_
          refine tri_reg mixed hcx ?_ _ _
          refine ld rfl rfl tyZ rfl ?_
          refine mv rfl ?_
          refine ca rfl (h := zi_Shift_up (by omega) (by omega)) (hn := ?_)
          refine mv rfl ?_
          refine ex rfl rfl ?_
          refine ex rfl rfl ?_
          refine st rfl rfl rfl tyZ rfl ?_
          refine ⟨by kernel_rfl, ?_⟩
          refine nx (sl 2 rfl (sl 7 rfl (sl 8 rfl sn))) (el 10 rfl (el 1113 rfl (el 1114 rfl en))) ?_
          refine tri_seq ?_
          refine tri_reg mixed hcx ?_ _ _
          refine ld rfl rfl tyZ rfl ?_
          refine ld rfl rfl tyZ rfl ?_
          refine ca rfl (h := rat_Make (by decide) (by omega) (by omega)) (hn := ?_)
          refine mv rfl ?_
          refine ex rfl rfl ?_
          refine ex rfl rfl ?_
          refine nw 1516 zeQ ?_
          refine st rfl rfl rfl tyQ rfl ?_
          refine asg rfl ?_
          refine ⟨by kernel_rfl, ?_⟩
          refine nx (sl 2 rfl (sl 9 rfl sn)) (el 10 rfl (el 1113 rfl (el 1114 rfl (el 1516 rfl en)))) ?_
          refine tri_seq ?_
          refine tri_reg mixed hcx ?_ _ _
          refine ld rfl rfl tyQ rfl ?_
          refine st rfl rfl rfl tyQ rfl ?_
          refine asg rfl ?_
          refine ⟨by kernel_rfl, ?_⟩
          refine nx (sl 2 rfl (sl 3 rfl sn)) (el 10 rfl (el 1113 rfl (el 1114 rfl (el 1516 rfl en)))) ?_
          refine tri_ret ?_
          repeat (first | refine pn_thenr ?_ | refine pn_blkr ?_)
          exact ret2 hcx rfl (rv_cell (c' := cx) (n := 0) rfl rfl tyQ rfl) (rv_tmp rfl) (ex_out ((div_one' _).trans ((fq_up (by omega)).trans (oq_fin hn hh).symm)) (by omega) (fin_t hn hh).symm) en
        · have hne : (1 : Int) * ((2 ^ (1075 - fex b) : Nat) : Int) ≠ 0 := by rw [Int.one_mul]; exact Int.ne_of_gt (Int.ofNat_lt.2 (Nat.two_pow_pos _))
          refine tri_reg mixed hcx ?_ _ _
          refine ld rfl rfl tyZ rfl ?_
          refine mv rfl ?_
          refine ng (((1075 - fex b : Nat) : Int)) rfl rfl (by omega) ?_
          refine ca rfl (h := zi_Shift_up (by omega) (by omega)) (hn := ?_)
          refine mv rfl ?_
          refine ex rfl rfl ?_
          refine ex rfl rfl ?_
          refine st rfl rfl rfl tyZ rfl ?_
          refine ⟨by kernel_rfl, ?_⟩
          refine nx (sl 2 rfl (sl 7 rfl (sl 8 rfl sn))) (el 10 rfl (el 1113 rfl (el 1114 rfl en))) ?_
          refine tri_seq ?_
          refine tri_reg mixed hcx ?_ _ _
          refine ld rfl rfl tyZ rfl ?_
          refine ld rfl rfl tyZ rfl ?_
          refine ca rfl (h := rat_Make hne (by omega) (by omega)) (hn := ?_)
          refine mv rfl ?_
          refine ex rfl rfl ?_
          refine ex rfl rfl ?_
          refine nw 1516 zeQ ?_
          refine st rfl rfl rfl tyQ rfl ?_
          refine asg rfl ?_
          refine ⟨by kernel_rfl, ?_⟩
          refine nx (sl 2 rfl (sl 9 rfl sn)) (el 10 rfl (el 1113 rfl (el 1114 rfl (el 1516 rfl en)))) ?_
          refine tri_seq ?_
          refine tri_reg mixed hcx ?_ _ _
          refine ld rfl rfl tyQ rfl ?_
          refine st rfl rfl rfl tyQ rfl ?_
          refine asg rfl ?_
          refine ⟨by kernel_rfl, ?_⟩
          refine nx (sl 2 rfl (sl 3 rfl sn)) (el 10 rfl (el 1113 rfl (el 1114 rfl (el 1516 rfl en)))) ?_
          refine tri_ret ?_
          repeat (first | refine pn_thenr ?_ | refine pn_blkr ?_)
          exact ret2 hcx rfl (rv_cell (c' := cx) (n := 0) rfl rfl tyQ rfl) (rv_tmp rfl) (ex_out (by rw [Int.one_mul]; exact (fq_dn (by omega)).trans (oq_fin hn hh).symm) (by omega) (fin_t hn hh).symm) en

theorem r9_Exact {o : Option Nat} : Fn Try.prog 31 [T.F o] [] [] [] (T.tup [T.Q (oq o) 80, T.c (.bool (oFin o))]) := by
  refine fn_of Try.func31 rfl (by show 1 ≤ 53; decide) fun cx hcx => ?_
  refine tri_sub (sl 0 rfl sn) en ?_
  refine tri_ex 0 rfl fun b ⟨hb, hf⟩ => ?_
  subst hf
  have ib : BLt b := ⟨hb⟩
  have hfm : fm b = b % 4503599627370496 := rfl
  have hfe : fe b = b / 4503599627370496 % 2048 := rfl
  have hrg : Fl.rung b = b % 9223372036854775808 := rfl
  refine tri_seq ?_
  refine tri_reg mixed hcx ?_ _ _
  refine nw 10 zeQ ?_
  refine asg rfl ?_
  refine ⟨by kernel_rfl, ?_⟩
  refine nx (sl 0 rfl (sl 2 rfl sn)) (el 10 rfl en) ?_
  refine tri_seq ?_
  refine tri_reg mixed hcx ?_ _ _
  refine mv rfl ?_
  refine caf rfl (h := r9_bits) (hn := ?_)
  refine asg rfl ?_
  refine ⟨by kernel_rfl, ?_⟩
  refine nx (sl 2 rfl (sl 4 rfl sn)) (el 10 rfl en) ?_
  refine tri_seq ?_
  refine tri_reg mixed hcx ?_ _ _
  refine mv rfl ?_
  refine re (((Fl.rung b : Nat) : Int)) rfl rfl (by omega) ?_
  refine asg rfl ?_
  refine ⟨by kernel_rfl, ?_⟩
  refine nx (sl 2 rfl (sl 4 rfl (sl 5 rfl sn))) (el 10 rfl en) ?_
  refine tri_seq ?_
  refine tri_seq ?_
  rcases b_cases hb with hn | ⟨hn, hh⟩ | ⟨hn, hh⟩
  · have hni := nan_iff.1 hn
    refine tri_reg mixed hcx ?_ _ _
    refine mv rfl ?_
    refine cge rfl rfl (decide_eq_true (by omega)) ?_
    refine ⟨by kernel_rfl, ?_⟩
    refine nx (sl 2 rfl (sl 4 rfl (sl 5 rfl (sl 13 rfl sn)))) (el 10 rfl en) ?_
    refine tri_true rfl rfl ?_
    refine tri_seq ?_
    refine tri_reg mixed hcx ?_ _ _
    refine bu stZ rfl ?_
    refine ca rfl (h := r03_Of (by omega)) (hn := ?_)
    refine st rfl rfl rfl tyQ rfl ?_
    refine asg rfl ?_
    refine ⟨by kernel_rfl, ?_⟩
    refine nx (sl 2 rfl (sl 3 rfl sn)) (el 10 rfl en) ?_
    refine tri_ret ?_
    repeat (first | refine pn_thenr ?_ | refine pn_blkr ?_)
    exact ret2 hcx rfl (rv_cell (c' := cx) (n := 0) rfl rfl tyQ rfl) (rv_tmp rfl) (ex_out (oq_nan hn).symm (by omega) (fin_n hn).symm) en
  · refine tri_reg mixed hcx ?_ _ _
    refine mv rfl ?_
    refine cge rfl rfl (decide_eq_true (by omega)) ?_
    refine ⟨by kernel_rfl, ?_⟩
    refine nx (sl 2 rfl (sl 4 rfl (sl 5 rfl (sl 13 rfl sn)))) (el 10 rfl en) ?_
    refine tri_true rfl rfl ?_
    refine tri_seq ?_
    refine tri_reg mixed hcx ?_ _ _
    refine bu stZ rfl ?_
    refine ca rfl (h := r03_Of (by omega)) (hn := ?_)
    refine st rfl rfl rfl tyQ rfl ?_
    refine asg rfl ?_
    refine ⟨by kernel_rfl, ?_⟩
    refine nx (sl 2 rfl (sl 3 rfl sn)) (el 10 rfl en) ?_
    refine tri_ret ?_
    repeat (first | refine pn_thenr ?_ | refine pn_blkr ?_)
    exact ret2 hcx rfl (rv_cell (c' := cx) (n := 0) rfl rfl tyQ rfl) (rv_tmp rfl) (ex_out (oq_inf hn hh).symm (by omega) (fin_i hn hh).symm) en
  · have hni : ¬ 9218868437227405312 < Fl.rung b := mt nan_iff.2 (by rw [hn]; decide)
    have hlt : Fl.rung b < 9218868437227405312 := by rcases Nat.lt_trichotomy (Fl.rung b) 9218868437227405312 with h | h | h; exact h; exact absurd h hh; exact absurd h hni
    refine tri_reg mixed hcx ?_ _ _
    refine mv rfl ?_
    refine cge rfl rfl (decide_eq_false (by omega)) ?_
    refine ⟨by kernel_rfl, ?_⟩
    refine nx (sl 2 rfl (sl 4 rfl (sl 5 rfl (sl 13 rfl sn)))) (el 10 rfl en) ?_
    refine tri_false rfl rfl ?_
    refine tri_skip ?_
    refine nx (sl 2 rfl (sl 4 rfl (sl 5 rfl sn))) (el 10 rfl en) ?_
    refine tri_seq ?_
    have hf1 : fmt b < 9007199254740992 := by unfold fmt; split <;> omega
    have hf2 : 1 ≤ fex b ∧ fex b ≤ 2047 := by unfold fex; split <;> omega
    have hz1 : -9007199254740992 < fz b ∧ fz b < 9007199254740992 := by unfold fz; split <;> omega
    have hf3 : fe b ≤ 2046 := by have : Fl.rung b ≤ 9218868437227405312 := by { rcases fo_cases hb with ⟨h, _⟩ | ⟨_, _, h⟩; exact absurd h (by rw [hn]; decide); exact h }; omega
    obtain ⟨hL1, hL2, hL3⟩ := two_lims hf1
    have hsg : (decide ((9223372036854775808 : Int) ≤ (b : Int))) = decide (9223372036854775808 ≤ b) := decide_eq_decide.2 (by omega)
    have hq1 : (T.st [T.c (.bool (decide ((9223372036854775808 : Int) ≤ (b : Int)))), T.l cU [((fmt b % 4294967296 : Nat) : Int), ((fmt b / 4294967296 : Nat) : Int)]]).le (T.Zi (fz b) 2) := zi_of hL1 (by rw [hsg, hL2]; exact fz_sign) hL3
    have hq2 : (T.st [T.c (.bool (decide ((9223372036854775808 : Int) ≤ (b : Int)))), T.l cU (dig (fmt b * 2 ^ (fex b - 1075)))]).le (T.Zi (fz b * ((2 ^ (fex b - 1075) : Nat) : Int)) (2 + ((fex b - 1075) / 32 + 1))) := zi_of (dig_lim _) (by rw [hsg, dig_val, fz_sign]; unfold iv; split <;> simp [Int.neg_mul]) (Nat.le_trans (lim_mul _ _) (Nat.add_le_add (lim_val hL1 hL2 hL3) (two_limb _)))
    have hq3 : (T.st [T.c (.bool false), T.l cU (dig (2 ^ (1075 - fex b)))]).le (T.Zi ((2 ^ (1075 - fex b) : Nat) : Int) ((1075 - fex b) / 32 + 1)) := zi_of (dig_lim _) (by show _ = iv false (val (dig _)); rw [dig_val]; rfl) (two_limb _)
    have hne : ((2 ^ (1075 - fex b) : Nat) : Int) ≠ 0 := Int.ne_of_gt (Int.ofNat_lt.2 (Nat.two_pow_pos _))
    have hl2 : lim (2 ^ (fex b - 1075)) ≤ 32 := Nat.le_trans (two_limb _) (by omega)
    refine tri_reg mixed hcx ?_ _ _
    refine mv rfl ?_
    refine shR (s := 52) (((fe b : Nat) : Int)) rfl rfl rfl ⟨by omega, by omega, by decide⟩ ?_
    refine cvt _ rfl cvU64I rfl ⟨rfl, by omega, by omega⟩ ?_
    refine asg rfl ?_
    refine ⟨by kernel_rfl, ?_⟩
    refine nx (sl 2 rfl (sl 4 rfl (sl 5 rfl (sl 6 rfl sn)))) (el 10 rfl en) ?_
    refine tri_seq ?_
    refine tri_reg mixed hcx ?_ _ _
    refine mv rfl ?_
    refine re (((fm b : Nat) : Int)) rfl rfl (by omega) ?_
    refine asg rfl ?_
    refine ⟨by kernel_rfl, ?_⟩
    refine nx (sl 2 rfl (sl 4 rfl (sl 5 rfl (sl 6 rfl sn)))) (el 10 rfl en) ?_
    refine tri_join (ι := Unit) (fun _ => [(2, T.p 10 0), (4, T.c (.int .u64 (b : Int))), (5, T.c (.int .u64 ((fmt b : Nat) : Int))), (6, T.c (.int .i64 ((fex b : Nat) : Int)))]) (fun _ => [(10, some (Ent.box 29 [T.c (.bool false), T.c (.slice none 0 0), T.c (.bool false), T.c (.slice none 0 0)]))]) (fun _ => True) ?_ ?_
    · refine tri_seq ?_
      refine tri_reg mixed hcx ?_ _ _
      refine mv rfl ?_
      refine ceq rfl rfl rfl ?_
      refine ⟨by kernel_rfl, ?_⟩
      refine nx (sl 2 rfl (sl 4 rfl (sl 5 rfl (sl 6 rfl (sl 22 rfl sn))))) (el 10 rfl en) ?_
      refine tri_if rfl (fun hc => ?_) (fun hc => ?_)
      · refine tri_reg mixed hcx ?_ _ _
        refine asg rfl ?_
        refine ⟨by kernel_rfl, ?_⟩
        first | exact pn_join () trivial (sl 2 rfl (sl 4 rfl (sw 5 rfl (ci (by rw [fmt_z (by omega)])) (sw 6 rfl (ci (by rw [fex_z (by omega)]; rfl)) sn)))) (el 10 rfl en) | exact pn_join () trivial (sl 2 rfl (sl 4 rfl (sw 5 rfl (ci (by rw [fmt_p (by omega)])) (sw 6 rfl (ci (by rw [fex_p (by omega)])) sn)))) (el 10 rfl en)
      · refine tri_reg mixed hcx ?_ _ _
        refine mv rfl ?_
        refine ad (((fm b + 4503599627370496 : Nat) : Int)) rfl rfl rfl (by omega) ?_
        refine asg rfl ?_
        refine ⟨by kernel_rfl, ?_⟩
        first | exact pn_join () trivial (sl 2 rfl (sl 4 rfl (sw 5 rfl (ci (by rw [fmt_z (by omega)])) (sw 6 rfl (ci (by rw [fex_z (by omega)]; rfl)) sn)))) (el 10 rfl en) | exact pn_join () trivial (sl 2 rfl (sl 4 rfl (sw 5 rfl (ci (by rw [fmt_p (by omega)])) (sw 6 rfl (ci (by rw [fex_p (by omega)])) sn)))) (el 10 rfl en)
    · rintro _ _
      refine tri_sub (sl 2 rfl (sl 4 rfl (sl 5 rfl (sl 6 rfl sn)))) (el 10 rfl en) ?_
      refine tri_seq ?_
      refine tri_reg mixed hcx ?_ _ _
      refine mv rfl ?_
      refine cge rfl rfl rfl ?_
      refine mv rfl ?_
      refine re (((fmt b % 4294967296 : Nat) : Int)) rfl rfl (by omega) ?_
      refine cvm (((fmt b % 4294967296 : Nat) : Int)) rfl cvU64U32 (by omega) ?_
      refine mv rfl ?_
      refine shR (s := 32) (((fmt b / 4294967296 : Nat) : Int)) rfl rfl rfl ⟨by omega, by omega, by decide⟩ ?_
      refine cvm (((fmt b / 4294967296 : Nat) : Int)) rfl cvU64U32 (by omega) ?_
      refine bl2 rfl rfl slLs zvU32 ?_
      refine bu stZ rfl ?_
      refine nw 1020 zeZ ?_
      refine sts rfl rfl rfl tyZ rfl ?_
      refine ⟨by kernel_rfl, ?_⟩
      refine nx (sl 2 rfl (sl 6 rfl (sl 7 rfl sn))) (el 10 rfl (el 1020 rfl en)) ?_
      refine tri_seq ?_
      refine tri_seq ?_
      refine tri_reg mixed hcx ?_ _ _
      refine mv rfl ?_
      refine cge rfl rfl rfl ?_
      refine ⟨by kernel_rfl, ?_⟩
      refine nx (sl 2 rfl (sl 6 rfl (sl 7 rfl (sl 36 rfl sn)))) (el 10 rfl (el 1020 rfl en)) ?_
      refine tri_if rfl (fun hg => ?_) (fun hg => ?_)
      · refine tri_seq ?_
        refine tri_reg mixed hcx ?_ _ _
        refine fa rfl fNeg 0 ?_
        refine ld rfl rfl tyB rfl ?_
        refine fa rfl fMag 1 ?_
        refine ld rfl rfl tyLs rfl ?_
        refine mv rfl ?_
        refine sb (((fex b - 1075 : Nat) : Int)) rfl rfl rfl (by omega) ?_
        refine ca rfl (h := r01_Two (by omega)) (hn := ?_)
        refine ca rfl (h := r01_Mul (by omega) (by omega)) (hn := ?_)
        refine bu stZ rfl ?_
        refine ca rfl (h := r03_Of (by omega)) (hn := ?_)
        refine st rfl rfl rfl tyQ rfl ?_
        refine asg rfl ?_
        refine ⟨by kernel_rfl, ?_⟩
        refine nx (sl 2 rfl (sl 3 rfl sn)) (el 10 rfl (el 1020 rfl en)) ?_
        refine tri_ret ?_
        repeat (first | refine pn_thenr ?_ | refine pn_blkr ?_)
        exact ret2 hcx rfl (rv_cell (c' := cx) (n := 0) rfl rfl tyQ rfl) (rv_tmp rfl) (ex_out ((fq_up (by omega)).trans (oq_fin hn hh).symm) (by omega) (fin_t hn hh).symm) en
      · refine tri_skip ?_
        refine nx (sl 2 rfl (sl 6 rfl (sl 7 rfl sn))) (el 10 rfl (el 1020 rfl en)) ?_
        refine tri_seq ?_
        refine tri_reg mixed hcx ?_ _ _
        refine ld rfl rfl tyZ rfl ?_
        refine mv rfl ?_
        refine sb (((1075 - fex b : Nat) : Int)) rfl rfl rfl (by omega) ?_
        refine ca rfl (h := r01_Two (by omega)) (hn := ?_)
        refine bu stZ rfl ?_
        refine ca rfl (h := r03_Make (by first | assumption | omega) (by omega) (by omega)) (hn := ?_)
        refine st rfl rfl rfl tyQ rfl ?_
        refine asg rfl ?_
        refine ⟨by kernel_rfl, ?_⟩
        refine nx (sl 2 rfl (sl 3 rfl sn)) (el 10 rfl (el 1020 rfl en)) ?_
        refine tri_ret ?_
        repeat (first | refine pn_thenr ?_ | refine pn_blkr ?_)
        exact ret2 hcx rfl (rv_cell (c' := cx) (n := 0) rfl rfl tyQ rfl) (rv_tmp rfl) (ex_out ((fq_dn (by omega)).trans (oq_fin hn hh).symm) (by omega) (fin_t hn hh).symm) en

theorem l9_whole {z : Int} {k l : Nat} (hk : k ≤ 4398046511104) (hl : l ≤ 4398046511104) : Fn Try.prog 28 [T.Z z k, T.Z z l] [] [] [] (T.c (.bool true)) := by
  refine fn_of Try.func28 rfl (by show 2 ≤ 9; decide) fun cx hcx => ?_
  refine tri_sub (sl 0 rfl (sl 1 rfl sn)) en ?_
  refine tri_seq ?_
  refine tri_reg mixed hcx ?_ _ _
  refine bx 10 rfl ?_
  refine bx 11 rfl ?_
  refine asg rfl ?_
  refine ⟨by kernel_rfl, ?_⟩
  refine nx (sl 2 rfl (sl 3 rfl sn)) (el 10 rfl (el 11 rfl en)) ?_
  refine tri_seq ?_
  refine tri_reg mixed hcx ?_ _ _
  refine ld rfl rfl tyZ rfl ?_
  refine ld rfl rfl tyZ rfl ?_
  refine ca rfl (h := r02_Cmp (by omega) (by omega)) (hn := ?_)
  refine ceq rfl rfl (decide_eq_true (sgnc_eq rfl)) ?_
  refine asg rfl ?_
  refine ⟨by kernel_rfl, ?_⟩
  refine nx (sl 4 rfl sn) (el 10 rfl (el 11 rfl en)) ?_
  refine tri_ret ?_
  repeat (first | refine pn_thenr ?_ | refine pn_blkr ?_)
  exact ret1 hcx rfl (rv_tmp rfl) (.refl _) en

theorem half_out : (T.tup [T.Q (oq (fo 4602678819172646912)) 80, T.c (.bool (oFin (fo 4602678819172646912)))]).le (T.tup [T.st [T.Z 1 80, T.Z 2 80], T.c (.bool true)]) := by
  have h : oq (fo 4602678819172646912) = Rat.divInt 1 2 := by
    rw [oq_fin (by decide) (by decide), ← fq_dn (by decide), show fz 4602678819172646912 = 4503599627370496 from by decide, show 1075 - fex 4602678819172646912 = 53 from by decide, show (((2 ^ 53 : Nat) : Int) : Rat) = 2 * ((4503599627370496 : Int) : Rat) from by rw [show (2 : Rat) = ((2 : Int) : Rat) from rfl, ← Rat.intCast_mul]; rfl, Rat.divInt_eq_div, show ((1 : Int) : Rat) = 1 from rfl, show ((2 : Int) : Rat) = 2 from rfl]
    have : ((4503599627370496 : Int) : Rat) ≠ 0 := rat_ne (by decide)
    grind
  rw [h, show oFin (fo 4602678819172646912) = true from by decide]
  exact tup_le ⟨.of (show T.st [T.Z (Rat.divInt 1 2).num 80, T.Z ((Rat.divInt 1 2).den : Int) 80] = _ from by rw [show (Rat.divInt 1 2).num = 1 from by decide, show (Rat.divInt 1 2).den = 2 from by decide]; rfl), .refl _, trivial⟩

theorem l9_awake  : Fn Try.prog 7 [] [] [] [] (T.c (.bool true)) := by
  refine fn_of Try.func7 rfl (by show 0 ≤ 24; decide) fun cx hcx => ?_
  refine tri_sub sn en ?_
  refine tri_seq ?_
  refine tri_reg mixed hcx ?_ _ _
  refine asg rfl ?_
  refine ⟨by kernel_rfl, ?_⟩
  refine nx sn en ?_
  refine tri_seq ?_
  refine tri_reg mixed hcx ?_ _ _
  refine caf rfl (h := (fn_out iv_Exact half_out)) (hn := ?_)
  refine mv rfl ?_
  refine ex rfl rfl ?_
  refine ex rfl rfl ?_
  refine nw 114 zeQ ?_
  refine sts rfl rfl rfl tyQ rfl ?_
  refine asg rfl ?_
  refine ⟨by kernel_rfl, ?_⟩
  refine nx (sl 1 rfl (sl 2 rfl sn)) (el 114 rfl en) ?_
  refine tri_seq ?_
  refine tri_reg mixed hcx ?_ _ _
  refine mv rfl ?_
  refine mv rfl ?_
  refine fa rfl fNum 0 ?_ (hg := gd1)
  refine ld rfl rfl tyZ rfl ?_ (hg := gd1)
  refine ca rfl (h := r02_Of (by omega) (by omega)) (hn := ?_) (hg := gd1)
  refine ca rfl (h := l9_whole (by omega) (by omega)) (hn := ?_) (hg := gd1)
  refine pk rfl rfl ?_
  refine mv rfl ?_
  refine fa rfl fDen 2 ?_ (hg := gd1)
  refine ld rfl rfl tyZ rfl ?_ (hg := gd1)
  refine ca rfl (h := r02_Of (by omega) (by omega)) (hn := ?_) (hg := gd1)
  refine ca rfl (h := l9_whole (by omega) (by omega)) (hn := ?_) (hg := gd1)
  refine pk rfl rfl ?_
  refine mv rfl ?_
  refine caf rfl (h := iv_Up) (hn := ?_) (hg := gd1)
  refine fgt rfl rfl (show _ = true from by decide) ?_ (hg := gd1)
  refine pk rfl rfl ?_
  refine asg rfl ?_
  refine ⟨by kernel_rfl, ?_⟩
  refine nx (sl 0 rfl sn) (el 114 rfl en) ?_
  refine tri_ret ?_
  repeat (first | refine pn_thenr ?_ | refine pn_blkr ?_)
  exact ret1 hcx rfl (rv_tmp rfl) (.refl _) en

end Go.Proofs.Ytlmiadjogdfjkaa.V
