/- Intervals: products. -/
import Derived.Test.YtlmiadjogdfjkaaKM2
import Derived.Test.YtlmiadjogdfjkaaVG
set_option linter.unusedVariables false
set_option linter.unusedSimpArgs false
set_option maxRecDepth 100000
namespace Go.Proofs.Ytlmiadjogdfjkaa.V
open Go.RowKit Mt Nml
def NumF (x : Nat) : Prop := x < 18446744073709551616 ∧ Fl.isN x = false
theorem num_of {o : Option Nat} {x : Nat} (h : ∃ b, b < 18446744073709551616 ∧ fo b = o) (e : o = some x) : NumF x := by
  obtain ⟨b, hb, hf⟩ := h
  rw [e] at hf
  obtain ⟨rfl, hn⟩ := fo_isN hf
  exact ⟨hb, hn⟩
theorem num_rg {x : Nat} (h : NumF x) : x ≤ 9218868437227405312 ∨ 9223372036854775808 ≤ x ∧ x ≤ 18442240474082181120 := by
  have h2 := h.2
  rw [Fl.isN_of h.1] at h2
  have := of_decide_eq_false h2
  have := h.1
  omega
theorem key_eq {x y : Nat} (hx : NumF x) (hy : NumF y) (h : Fl.key x = Fl.key y) : x = y ∨ ((x = 0 ∨ x = 9223372036854775808) ∧ (y = 0 ∨ y = 9223372036854775808)) := by
  have h1 := hx.1
  have h2 := hy.1
  rw [Fl.key_of h1, Fl.key_of h2] at h
  split at h <;> split at h <;> omega
theorem up_key {x y : Nat} (hx : NumF x) (hy : NumF y) (h : Fl.key x = Fl.key y) : oUp (some x) = oUp (some y) := by
  rcases key_eq hx hy h with rfl | ⟨h1, h2⟩
  · rfl
  · have e1 := up_z hx.2 (by omega) h1
    have e2 := up_z hy.2 (by omega) h2
    rw [fo_s hx.2] at e1
    rw [fo_s hy.2] at e2
    rw [e1, e2]
theorem num_ng {x : Nat} (h : NumF x) : NumF (Fl.ng x) := ⟨Fl.ng_lt h.1, by rw [ng_nan h.1]; exact h.2⟩
theorem num_up {x : Nat} (h : NumF x) : NumF (Fl.up x) := by
  refine ⟨Fl.up_lt h.1, ?_⟩
  have hr := num_rg h
  unfold Fl.up
  split
  · exact h.2
  · rename_i h1
    split
    · decide
    · rename_i h2
      exact up_num h.1 h.2 (fun e => h1 (.inr e)) h2
theorem dn_some (x : Nat) : oDn (some x) = some (Fl.ng (Fl.up (Fl.ng x))) := rfl
theorem dn_key {x y : Nat} (hx : NumF x) (hy : NumF y) (h : Fl.key x = Fl.key y) : oDn (some x) = oDn (some y) := by
  have := up_key (num_ng hx) (num_ng hy) (by rw [key_ng hx.1, key_ng hy.1, h])
  unfold oDn
  show ong (oUp (some (Fl.ng x))) = ong (oUp (some (Fl.ng y)))
  rw [this]
theorem num_dn {x : Nat} (h : NumF x) : NumF (Fl.ng (Fl.up (Fl.ng x))) := num_ng (num_up (num_ng h))
theorem low_some (x : Nat) : oLow (some x) = oDn (some x) := if_neg (by simp)
theorem high_some (x : Nat) : oHigh (some x) = oUp (some x) := if_neg (by simp)
theorem cmp_three (a b : Int) : (compare a b = .lt ∧ a < b) ∨ (compare a b = .gt ∧ b < a) ∨ (compare a b = .eq ∧ a = b) := by
  simp only [compare, compareOfLessAndEq]
  by_cases h : a < b
  · exact .inl ⟨if_pos h, h⟩
  · rw [if_neg h]
    by_cases h2 : a = b
    · exact .inr (.inr ⟨if_pos h2, h2⟩)
    · exact .inr (.inl ⟨if_neg h2, by omega⟩)
theorem min_num {x y : Nat} (hx : NumF x) (hy : NumF y) : ∃ z, oMin (some x) (some y) = some z ∧ NumF z ∧ (z = x ∨ z = y) ∧ Fl.key z ≤ Fl.key x ∧ Fl.key z ≤ Fl.key y := by
  simp only [oMin, ord_num hx.2 hy.2]
  rcases cmp_three (Fl.key x) (Fl.key y) with ⟨h1, h2⟩ | ⟨h1, h2⟩ | ⟨h1, h2⟩ <;> rw [h1]
  · exact ⟨x, rfl, hx, .inl rfl, by omega, by omega⟩
  · exact ⟨y, rfl, hy, .inr rfl, by omega, by omega⟩
  · simp only
    split
    · exact ⟨x, rfl, hx, .inl rfl, by omega, by omega⟩
    · exact ⟨y, rfl, hy, .inr rfl, by omega, by omega⟩
theorem max_num {x y : Nat} (hx : NumF x) (hy : NumF y) : ∃ z, oMax (some x) (some y) = some z ∧ NumF z ∧ (z = x ∨ z = y) ∧ Fl.key x ≤ Fl.key z ∧ Fl.key y ≤ Fl.key z := by
  simp only [oMax, ord_num hx.2 hy.2]
  rcases cmp_three (Fl.key x) (Fl.key y) with ⟨h1, h2⟩ | ⟨h1, h2⟩ | ⟨h1, h2⟩ <;> rw [h1]
  · exact ⟨y, rfl, hy, .inr rfl, by omega, by omega⟩
  · exact ⟨x, rfl, hx, .inl rfl, by omega, by omega⟩
  · simp only
    split
    · exact ⟨y, rfl, hy, .inr rfl, by omega, by omega⟩
    · exact ⟨x, rfl, hx, .inl rfl, by omega, by omega⟩
/-- Products, nought times an infinity being nought. -/
def oTim (a b : Option Nat) : Option Nat := if oEq a (fo 0) = true ∨ oEq b (fo 0) = true then some 0 else oMul a b
theorem tim_z {a b : Option Nat} (h : oEq a (fo 0) = true ∨ oEq b (fo 0) = true) : (T.c (.float .f64 0)).le (T.F (oTim a b)) := fun β u v k => ⟨0, ⟨by decide, by rw [oTim, if_pos h]; decide⟩, k⟩
theorem tim_m {a b : Option Nat} (h : oEq a (fo 0) = false) (h2 : oEq b (fo 0) = false) : oMul a b = oTim a b := (if_neg (by rw [h, h2]; decide)).symm
open Ieee in
theorem read_nz {x : Nat} (hx : NumF x) (h : oEq (some x) (fo 0) = false) : double.read x = .infinity (Fl.sgn x) ∨ ∃ m e, m ≠ 0 ∧ double.read x = .number (Fl.sgn x) m e := by
  by_cases hi : Fl.rung x = Fl.INF
  · exact .inl (Fl.read_inf hi)
  · have h2 : ¬ Fl.INF < Fl.rung x := of_decide_eq_false hx.2
    obtain ⟨m, e, h3, h4⟩ := Fl.read_num (b := x) (by omega)
    refine .inr ⟨m, _, fun e0 => ?_, h3⟩
    rw [e0, Nat.zero_mul] at h4
    have h5 := mt Fl.mag_pos.2 (by rw [← h4]; decide : ¬ 0 < Fl.mag (Fl.rung x))
    have h6 : ¬ Fl.key x = Fl.key 0 := of_decide_eq_false h
    rw [show Fl.key 0 = 0 from by decide] at h6
    apply h6
    unfold Fl.key
    rw [show Fl.rung x = 0 by omega]
    split <;> rfl
open Ieee in
theorem mul_num {x y : Nat} (hx : NumF x) (hy : NumF y) (h : oEq (some x) (fo 0) = false) (h2 : oEq (some y) (fo 0) = false) : ∃ z, oMul (some x) (some y) = some z ∧ NumF z := by
  have key : ∃ z, FloatKind.f64.format.mul x y = some z := by
    show ∃ z, ((double.read x).product (double.read y)).map double.write = some z
    rcases read_nz hx h with e1 | ⟨m, e, hm, e1⟩ <;> rcases read_nz hy h2 with e2 | ⟨m2, e', hm2, e2⟩ <;> rw [e1, e2] <;> simp [Datum.product, *]
  obtain ⟨z, hz⟩ := key
  have := mul_ok.nn x y z hz
  exact ⟨z, hz, this.2, this.1⟩
theorem tim_num {x y : Nat} (hx : NumF x) (hy : NumF y) : ∃ z, oTim (some x) (some y) = some z ∧ NumF z := by
  unfold oTim
  split
  · exact ⟨0, rfl, by decide, by decide⟩
  · rename_i h
    exact mul_num hx hy (by cases hh : oEq (some x) (fo 0) with | false => rfl | true => exact absurd (.inl hh) h) (by cases hh : oEq (some y) (fo 0) with | false => rfl | true => exact absurd (.inr hh) h)
theorem sq_tim {x : Nat} (hx : NumF x) : oMul (some x) (some x) = oTim (some x) (some x) := by
  cases h : oEq (some x) (fo 0)
  · exact tim_m h h
  · unfold oTim
    rw [if_pos (.inl h)]
    have h6 : Fl.key x = Fl.key 0 := of_decide_eq_true h
    rcases key_eq hx ⟨by decide, by decide⟩ h6 with rfl | ⟨rfl | rfl, _⟩ <;> decide
def pk4 (a b c d : Nat) : Nat → Nat
  | 0 => a
  | 1 => b
  | 2 => c
  | _ => d
def Lst (l : Nat → Nat) (n m : Nat) : Prop := (∃ i, i < n ∧ m = l i) ∧ ∀ j, j < n → Fl.key m ≤ Fl.key (l j)
def Mst (l : Nat → Nat) (n m : Nat) : Prop := (∃ i, i < n ∧ m = l i) ∧ ∀ j, j < n → Fl.key (l j) ≤ Fl.key m
theorem lst_one (l : Nat → Nat) : Lst l 1 (l 0) := ⟨⟨0, by omega, rfl⟩, fun j hj => by rw [show j = 0 by omega]; omega⟩
theorem mst_one (l : Nat → Nat) : Mst l 1 (l 0) := ⟨⟨0, by omega, rfl⟩, fun j hj => by rw [show j = 0 by omega]; omega⟩
theorem lst_step {l : Nat → Nat} {n m i z : Nat} (h : Lst l n m) (hi : i ≤ n) (hz : z = m ∨ z = l i) (h1 : Fl.key z ≤ Fl.key m) (h2 : Fl.key z ≤ Fl.key (l i)) : Lst l (max n (i + 1)) z := by
  refine ⟨?_, fun j hj => ?_⟩
  · rcases hz with rfl | rfl
    · obtain ⟨k, hk, e⟩ := h.1; exact ⟨k, by omega, e⟩
    · exact ⟨i, by omega, rfl⟩
  · rcases Nat.lt_or_ge j n with hj' | hj'
    · have := h.2 j hj'; omega
    · rw [show j = i by omega]; exact h2
theorem mst_step {l : Nat → Nat} {n m i z : Nat} (h : Mst l n m) (hi : i ≤ n) (hz : z = m ∨ z = l i) (h1 : Fl.key m ≤ Fl.key z) (h2 : Fl.key (l i) ≤ Fl.key z) : Mst l (max n (i + 1)) z := by
  refine ⟨?_, fun j hj => ?_⟩
  · rcases hz with rfl | rfl
    · obtain ⟨k, hk, e⟩ := h.1; exact ⟨k, by omega, e⟩
    · exact ⟨i, by omega, rfl⟩
  · rcases Nat.lt_or_ge j n with hj' | hj'
    · have := h.2 j hj'; omega
    · rw [show j = i by omega]; exact h2
theorem lst_num {l : Nat → Nat} (hl : ∀ i, NumF (l i)) {n m : Nat} (h : Lst l n m) : NumF m := by obtain ⟨⟨i, _, rfl⟩, _⟩ := h; exact hl i
theorem mst_num {l : Nat → Nat} (hl : ∀ i, NumF (l i)) {n m : Nat} (h : Mst l n m) : NumF m := by obtain ⟨⟨i, _, rfl⟩, _⟩ := h; exact hl i
theorem lst_uni {l : Nat → Nat} (hl : ∀ i, NumF (l i)) {n m m' : Nat} (h : Lst l n m) (h' : Lst l n m') : oDn (some m) = oDn (some m') := dn_key (lst_num hl h) (lst_num hl h') (by
  obtain ⟨⟨i, hi, e⟩, k⟩ := h
  obtain ⟨⟨j, hj, e'⟩, k'⟩ := h'
  have h1 := k j hj
  have h2 := k' i hi
  rw [← e'] at h1
  rw [← e] at h2
  omega)
theorem mst_uni {l : Nat → Nat} (hl : ∀ i, NumF (l i)) {n m m' : Nat} (h : Mst l n m) (h' : Mst l n m') : oUp (some m) = oUp (some m') := up_key (mst_num hl h) (mst_num hl h') (by
  obtain ⟨⟨i, hi, e⟩, k⟩ := h
  obtain ⟨⟨j, hj, e'⟩, k'⟩ := h'
  have h1 := k j hj
  have h2 := k' i hi
  rw [← e'] at h1
  rw [← e] at h2
  omega)
theorem lst_ex (l : Nat → Nat) : ∀ n, ∃ m, Lst l (n + 1) m
  | 0 => ⟨_, lst_one l⟩
  | n + 1 => by
    obtain ⟨m, h⟩ := lst_ex l n
    by_cases hc : Fl.key m ≤ Fl.key (l (n + 1))
    · exact ⟨m, by have := lst_step h (i := n + 1) (z := m) (Nat.le_refl _) (.inl rfl) (by omega) hc; rwa [show max (n + 1) (n + 1 + 1) = n + 1 + 1 by omega] at this⟩
    · exact ⟨l (n + 1), by have := lst_step h (i := n + 1) (z := l (n + 1)) (Nat.le_refl _) (.inr rfl) (by omega) (by omega); rwa [show max (n + 1) (n + 1 + 1) = n + 1 + 1 by omega] at this⟩
theorem mst_ex (l : Nat → Nat) : ∀ n, ∃ m, Mst l (n + 1) m
  | 0 => ⟨_, mst_one l⟩
  | n + 1 => by
    obtain ⟨m, h⟩ := mst_ex l n
    by_cases hc : Fl.key (l (n + 1)) ≤ Fl.key m
    · exact ⟨m, by have := mst_step h (i := n + 1) (z := m) (Nat.le_refl _) (.inl rfl) (by omega) hc; rwa [show max (n + 1) (n + 1 + 1) = n + 1 + 1 by omega] at this⟩
    · exact ⟨l (n + 1), by have := mst_step h (i := n + 1) (z := l (n + 1)) (Nat.le_refl _) (.inr rfl) (by omega) (by omega); rwa [show max (n + 1) (n + 1 + 1) = n + 1 + 1 by omega] at this⟩
theorem pk4_num {a b c d : Nat} (ha : NumF a) (hb : NumF b) (hc : NumF c) (hd : NumF d) : ∀ i, NumF (pk4 a b c d i)
  | 0 => ha
  | 1 => hb
  | 2 => hc
  | _ + 3 => hd

theorem iv_times {a b : Option Nat} : Fn Try.prog 35 [T.F a, T.F b] [] [] [] (T.F (oTim a b)) := by
  refine fn_of Try.func35 rfl (by show 2 ≤ 14; decide) fun cx hcx => ?_
  refine tri_sub (sl 0 rfl (sl 1 rfl sn)) en ?_
  refine tri_seq ?_
  refine tri_reg mixed hcx ?_ _ _
  refine asg rfl ?_
  refine ⟨by kernel_rfl, ?_⟩
  refine nx (sl 0 rfl (sl 1 rfl sn)) en ?_
  refine tri_seq ?_
  refine tri_seq ?_
  rcases Bool.eq_false_or_eq_true (oEq a (fo 0)) with h1 | h1; rotate_left; rcases Bool.eq_false_or_eq_true (oEq b (fo 0)) with h2 | h2
  · refine tri_reg mixed hcx ?_ _ _
    refine mv rfl ?_
    refine feq rfl rfl h1 ?_
    refine mv rfl ?_
    refine mv rfl ?_ (hg := gd1)
    refine feq rfl rfl h2 ?_ (hg := gd1)
    refine pk rfl rfl ?_
    refine ⟨by kernel_rfl, ?_⟩
    refine nx (sl 0 rfl (sl 1 rfl (sl 10 rfl sn))) en ?_
    refine tri_true rfl rfl ?_
    refine tri_seq ?_
    refine tri_reg mixed hcx ?_ _ _
    refine asg rfl ?_
    refine ⟨by kernel_rfl, ?_⟩
    refine nx (sl 4 rfl sn) en ?_
    refine tri_ret ?_
    repeat (first | refine pn_thenr ?_ | refine pn_blkr ?_)
    exact ret1 hcx rfl (rv_tmp rfl) (tim_z (.inr h2)) en
  · refine tri_reg mixed hcx ?_ _ _
    refine mv rfl ?_
    refine feq rfl rfl h1 ?_
    refine mv rfl ?_
    refine mv rfl ?_ (hg := gd1)
    refine feq rfl rfl h2 ?_ (hg := gd1)
    refine pk rfl rfl ?_
    refine ⟨by kernel_rfl, ?_⟩
    refine nx (sl 0 rfl (sl 1 rfl (sl 10 rfl sn))) en ?_
    refine tri_false rfl rfl ?_
    refine tri_skip ?_
    refine nx (sl 0 rfl (sl 1 rfl sn)) en ?_
    refine tri_seq ?_
    refine tri_reg mixed hcx ?_ _ _
    refine mv rfl ?_
    refine mv rfl ?_
    refine fml rfl rfl ?_
    refine asg rfl ?_
    refine ⟨by kernel_rfl, ?_⟩
    refine nx (sl 4 rfl sn) en ?_
    refine tri_ret ?_
    repeat (first | refine pn_thenr ?_ | refine pn_blkr ?_)
    exact ret1 hcx rfl (rv_tmp rfl) (f_eq (tim_m h1 h2)) en
  · refine tri_reg mixed hcx ?_ _ _
    refine mv rfl ?_
    refine feq rfl rfl h1 ?_
    refine mv rfl ?_
    refine j_off rfl rfl rfl rfl ?_
    refine j_off rfl rfl rfl rfl ?_
    refine pk rfl rfl ?_
    refine ⟨by kernel_rfl, ?_⟩
    refine nx (sl 0 rfl (sl 1 rfl (sl 10 rfl sn))) en ?_
    refine tri_true rfl rfl ?_
    refine tri_seq ?_
    refine tri_reg mixed hcx ?_ _ _
    refine asg rfl ?_
    refine ⟨by kernel_rfl, ?_⟩
    refine nx (sl 4 rfl sn) en ?_
    refine tri_ret ?_
    repeat (first | refine pn_thenr ?_ | refine pn_blkr ?_)
    exact ret1 hcx rfl (rv_tmp rfl) (tim_z (.inl h1)) en

theorem iv_Mul {a b c d : Option Nat} {x0 x1 x2 x3 m M : Nat} (e0 : oTim a c = some x0) (e1 : oTim a d = some x1) (e2 : oTim b c = some x2) (e3 : oTim b d = some x3) (n0 : NumF x0) (n1 : NumF x1) (n2 : NumF x2) (n3 : NumF x3) (hm : Lst (pk4 x0 x1 x2 x3) 4 m) (hM : Mst (pk4 x0 x1 x2 x3) 4 M) (h : oLe a b = true) (h2 : oLe c d = true) : Fn Try.prog 13 [T.st [T.F a, T.F b], T.st [T.F c, T.F d]] [] [] [] (T.tup [T.st [T.F (oDn (some m)), T.F (oUp (some M))], T.c (.int .i64 0)]) := by
  refine fn_of Try.func13 rfl (by show 2 ≤ 57; decide) fun cx hcx => ?_
  refine tri_sub (sl 0 rfl (sl 1 rfl sn)) en ?_
  have hl := pk4_num n0 n1 n2 n3
  refine tri_seq ?_
  refine tri_reg mixed hcx ?_ _ _
  refine bxs 10 rfl ?_
  refine bxs 11 rfl ?_
  refine nw 12 zeV ?_
  refine asg rfl ?_
  refine ⟨by kernel_rfl, ?_⟩
  refine nx (sl 2 rfl (sl 3 rfl (sl 4 rfl sn))) (el 10 rfl (el 11 rfl (el 12 rfl en))) ?_
  refine tri_seq ?_
  refine tri_seq ?_
  refine tri_reg mixed hcx ?_ _ _
  refine ld rfl rfl tyV rfl ?_
  refine ld rfl rfl tyV rfl ?_
  refine caf rfl (h := iv_both_t h h2) (hn := ?_)
  refine nt rfl _ rfl ?_
  refine ⟨by kernel_rfl, ?_⟩
  refine nx (sl 2 rfl (sl 3 rfl (sl 4 rfl (sl 14 rfl sn)))) (el 10 rfl (el 11 rfl (el 12 rfl en))) ?_
  refine tri_false rfl rfl ?_
  refine tri_skip ?_
  refine nx (sl 2 rfl (sl 3 rfl (sl 4 rfl sn))) (el 10 rfl (el 11 rfl (el 12 rfl en))) ?_
  refine tri_seq ?_
  refine tri_reg mixed hcx ?_ _ _
  refine fa rfl fLo 0 ?_
  refine ld rfl rfl tyF rfl ?_
  refine fa rfl fLo 0 ?_
  refine ld rfl rfl tyF rfl ?_
  refine caf rfl (h := (fn_out iv_times (f_eq e0))) (hn := ?_)
  refine fa rfl fLo 0 ?_
  refine ld rfl rfl tyF rfl ?_
  refine fa rfl fHi 1 ?_
  refine ld rfl rfl tyF rfl ?_
  refine caf rfl (h := (fn_out iv_times (f_eq e1))) (hn := ?_)
  refine fa rfl fHi 1 ?_
  refine ld rfl rfl tyF rfl ?_
  refine fa rfl fLo 0 ?_
  refine ld rfl rfl tyF rfl ?_
  refine caf rfl (h := (fn_out iv_times (f_eq e2))) (hn := ?_)
  refine fa rfl fHi 1 ?_
  refine ld rfl rfl tyF rfl ?_
  refine fa rfl fHi 1 ?_
  refine ld rfl rfl tyF rfl ?_
  refine caf rfl (h := (fn_out iv_times (f_eq e3))) (hn := ?_)
  refine bua ar4 rfl ?_
  refine nw 331 zeA4 ?_
  refine sts rfl rfl rfl tyA4 rfl ?_
  refine ⟨by kernel_rfl, ?_⟩
  refine nx (sl 4 rfl (sl 6 rfl sn)) (el 10 rfl (el 11 rfl (el 12 rfl (el 331 rfl en)))) ?_
  refine tri_seq ?_
  refine tri_reg mixed hcx ?_ _ _
  refine ixp 0 rfl rfl ar4 ⟨rfl, by decide⟩ 0 ?_
  refine ld rfl rfl tyF rfl ?_
  refine ixp 0 rfl rfl ar4 ⟨rfl, by decide⟩ 0 ?_
  refine ld rfl rfl tyF rfl ?_
  refine asg rfl ?_
  refine asg rfl ?_
  refine ⟨by kernel_rfl, ?_⟩
  refine nx (sl 4 rfl (sl 6 rfl (sl 7 rfl (sl 8 rfl sn)))) (el 10 rfl (el 11 rfl (el 12 rfl (el 331 rfl en)))) ?_
  refine tri_seq ?_
  refine tri_seq ?_
  refine tri_reg mixed hcx ?_ _ _
  refine ld rfl rfl tyA4 rfl ?_
  refine mv rfl ?_
  refine ⟨by kernel_rfl, ?_⟩
  refine nx (sl 4 rfl (sl 7 rfl (sl 8 rfl (sl 41 rfl (sl 42 rfl sn))))) (el 10 rfl (el 11 rfl (el 12 rfl (el 331 rfl en)))) ?_
  refine tri_block ?_
  refine tri_loop (ι := Nat × Nat × Nat) (fun (i, p, q) => [(4, T.p 12 0), (7, T.F (some p)), (8, T.F (some q)), (41, T.st [T.F (some x0), T.F (some x1), T.F (some x2), T.F (some x3)]), (42, T.c (.int .i64 (i : Int)))]) (fun (i, p, q) => [(12, some (Ent.box 24 [T.c (.float .f64 0), T.c (.float .f64 0)]))]) (fun (i, p, q) => 4 - i) (fun (i, p, q) => (i ≤ 4) ∧ (Lst (pk4 x0 x1 x2 x3) (max 1 i) p) ∧ (Mst (pk4 x0 x1 x2 x3) (max 1 i) q)) (0, x0, x0) ⟨by decide, lst_one _, mst_one _⟩ (sl 4 rfl (sl 7 rfl (sl 8 rfl (sl 41 rfl (sl 42 rfl sn))))) (el 12 rfl en) ?_
  rintro ⟨i, p, q⟩ ⟨hi, hL, hU⟩
  refine tri_sub (sl 4 rfl (sl 7 rfl (sl 8 rfl (sl 41 rfl (sl 42 rfl sn))))) (el 12 rfl en) ?_
  refine tri_seq ?_
  refine tri_reg mixed hcx ?_ _ _
  refine clt rfl rfl rfl ?_
  refine ⟨by kernel_rfl, ?_⟩
  refine nx (sl 4 rfl (sl 7 rfl (sl 8 rfl (sl 41 rfl (sl 42 rfl (sl 43 rfl sn)))))) (el 12 rfl en) ?_
  refine tri_seq ?_
  refine tri_if rfl (fun hc => ?_) (fun hc => ?_)
  · refine tri_skip ?_
    refine nx (sl 4 rfl (sl 7 rfl (sl 8 rfl (sl 41 rfl (sl 42 rfl sn))))) (el 12 rfl en) ?_
    refine tri_seq ?_
    refine tri_block ?_
    refine tri_seq ?_
    rcases (show i = 0 ∨ i = 1 ∨ i = 2 ∨ i = 3 by omega) with h0 | h1 | h2 | h3
    · subst h0
      obtain ⟨z, hz, nz, hz1, hz2, hz3⟩ := min_num (lst_num hl hL) n0
      obtain ⟨Z, hZ, nZ, hZ1, hZ2, hZ3⟩ := max_num (mst_num hl hU) n0
      refine tri_reg mixed hcx ?_ _ _
      refine ixr 0 rfl rfl ar4 ⟨rfl, by decide⟩ rfl ?_
      refine asg rfl ?_
      refine ⟨by kernel_rfl, ?_⟩
      refine nx (sl 4 rfl (sl 7 rfl (sl 8 rfl (sl 10 rfl (sl 41 rfl (sl 42 rfl sn)))))) (el 12 rfl en) ?_
      refine tri_reg mixed hcx ?_ _ _
      refine mv rfl ?_
      refine mv rfl ?_
      refine fmn rfl rfl rfl rfl ?_
      refine mv rfl ?_
      refine mv rfl ?_
      refine fmx rfl rfl rfl rfl ?_
      refine asg rfl ?_
      refine asg rfl ?_
      refine ⟨by kernel_rfl, ?_⟩
      refine pn_blk ?_
      refine nx (sl 4 rfl (sl 7 rfl (sl 8 rfl (sl 41 rfl (sl 42 rfl sn))))) (el 12 rfl en) ?_
      refine tri_reg mixed hcx ?_ _ _
      refine ad (((1 : Nat) : Int)) rfl rfl rfl (by omega) ?_
      refine mv rfl ?_
      refine ⟨by kernel_rfl, ?_⟩
      exact pn_back (1, z, Z) (by dsimp only; omega) ⟨by omega, by have := lst_step hL (i := 0) (by decide) hz1 hz2 hz3; exact this, by have := mst_step hU (i := 0) (by decide) hZ1 hZ2 hZ3; exact this⟩ (sl 4 rfl (sw 7 rfl (f_eq hz) (sw 8 rfl (f_eq hZ) (sl 41 rfl (sl 42 rfl sn))))) (el 12 rfl en)
    · subst h1
      obtain ⟨z, hz, nz, hz1, hz2, hz3⟩ := min_num (lst_num hl hL) n1
      obtain ⟨Z, hZ, nZ, hZ1, hZ2, hZ3⟩ := max_num (mst_num hl hU) n1
      refine tri_reg mixed hcx ?_ _ _
      refine ixr 1 rfl rfl ar4 ⟨rfl, by decide⟩ rfl ?_
      refine asg rfl ?_
      refine ⟨by kernel_rfl, ?_⟩
      refine nx (sl 4 rfl (sl 7 rfl (sl 8 rfl (sl 10 rfl (sl 41 rfl (sl 42 rfl sn)))))) (el 12 rfl en) ?_
      refine tri_reg mixed hcx ?_ _ _
      refine mv rfl ?_
      refine mv rfl ?_
      refine fmn rfl rfl rfl rfl ?_
      refine mv rfl ?_
      refine mv rfl ?_
      refine fmx rfl rfl rfl rfl ?_
      refine asg rfl ?_
      refine asg rfl ?_
      refine ⟨by kernel_rfl, ?_⟩
      refine pn_blk ?_
      refine nx (sl 4 rfl (sl 7 rfl (sl 8 rfl (sl 41 rfl (sl 42 rfl sn))))) (el 12 rfl en) ?_
      refine tri_reg mixed hcx ?_ _ _
      refine ad (((2 : Nat) : Int)) rfl rfl rfl (by omega) ?_
      refine mv rfl ?_
      refine ⟨by kernel_rfl, ?_⟩
      exact pn_back (2, z, Z) (by dsimp only; omega) ⟨by omega, by have := lst_step hL (i := 1) (by decide) hz1 hz2 hz3; exact this, by have := mst_step hU (i := 1) (by decide) hZ1 hZ2 hZ3; exact this⟩ (sl 4 rfl (sw 7 rfl (f_eq hz) (sw 8 rfl (f_eq hZ) (sl 41 rfl (sl 42 rfl sn))))) (el 12 rfl en)
    · subst h2
      obtain ⟨z, hz, nz, hz1, hz2, hz3⟩ := min_num (lst_num hl hL) n2
      obtain ⟨Z, hZ, nZ, hZ1, hZ2, hZ3⟩ := max_num (mst_num hl hU) n2
      refine tri_reg mixed hcx ?_ _ _
      refine ixr 2 rfl rfl ar4 ⟨rfl, by decide⟩ rfl ?_
      refine asg rfl ?_
      refine ⟨by kernel_rfl, ?_⟩
      refine nx (sl 4 rfl (sl 7 rfl (sl 8 rfl (sl 10 rfl (sl 41 rfl (sl 42 rfl sn)))))) (el 12 rfl en) ?_
      refine tri_reg mixed hcx ?_ _ _
      refine mv rfl ?_
      refine mv rfl ?_
      refine fmn rfl rfl rfl rfl ?_
      refine mv rfl ?_
      refine mv rfl ?_
      refine fmx rfl rfl rfl rfl ?_
      refine asg rfl ?_
      refine asg rfl ?_
      refine ⟨by kernel_rfl, ?_⟩
      refine pn_blk ?_
      refine nx (sl 4 rfl (sl 7 rfl (sl 8 rfl (sl 41 rfl (sl 42 rfl sn))))) (el 12 rfl en) ?_
      refine tri_reg mixed hcx ?_ _ _
      refine ad (((3 : Nat) : Int)) rfl rfl rfl (by omega) ?_
      refine mv rfl ?_
      refine ⟨by kernel_rfl, ?_⟩
      exact pn_back (3, z, Z) (by dsimp only; omega) ⟨by omega, by have := lst_step hL (i := 2) (by decide) hz1 hz2 hz3; exact this, by have := mst_step hU (i := 2) (by decide) hZ1 hZ2 hZ3; exact this⟩ (sl 4 rfl (sw 7 rfl (f_eq hz) (sw 8 rfl (f_eq hZ) (sl 41 rfl (sl 42 rfl sn))))) (el 12 rfl en)
    · subst h3
      obtain ⟨z, hz, nz, hz1, hz2, hz3⟩ := min_num (lst_num hl hL) n3
      obtain ⟨Z, hZ, nZ, hZ1, hZ2, hZ3⟩ := max_num (mst_num hl hU) n3
      refine tri_reg mixed hcx ?_ _ _
      refine ixr 3 rfl rfl ar4 ⟨rfl, by decide⟩ rfl ?_
      refine asg rfl ?_
      refine ⟨by kernel_rfl, ?_⟩
      refine nx (sl 4 rfl (sl 7 rfl (sl 8 rfl (sl 10 rfl (sl 41 rfl (sl 42 rfl sn)))))) (el 12 rfl en) ?_
      refine tri_reg mixed hcx ?_ _ _
      refine mv rfl ?_
      refine mv rfl ?_
      refine fmn rfl rfl rfl rfl ?_
      refine mv rfl ?_
      refine mv rfl ?_
      refine fmx rfl rfl rfl rfl ?_
      refine asg rfl ?_
      refine asg rfl ?_
      refine ⟨by kernel_rfl, ?_⟩
      refine pn_blk ?_
      refine nx (sl 4 rfl (sl 7 rfl (sl 8 rfl (sl 41 rfl (sl 42 rfl sn))))) (el 12 rfl en) ?_
      refine tri_reg mixed hcx ?_ _ _
      refine ad (((4 : Nat) : Int)) rfl rfl rfl (by omega) ?_
      refine mv rfl ?_
      refine ⟨by kernel_rfl, ?_⟩
      exact pn_back (4, z, Z) (by dsimp only; omega) ⟨by omega, by have := lst_step hL (i := 3) (by decide) hz1 hz2 hz3; exact this, by have := mst_step hU (i := 3) (by decide) hZ1 hZ2 hZ3; exact this⟩ (sl 4 rfl (sw 7 rfl (f_eq hz) (sw 8 rfl (f_eq hZ) (sl 41 rfl (sl 42 rfl sn))))) (el 12 rfl en)
  · refine tri_exit ?_
    repeat (first | refine pn_then ?_ | refine pn_oth (by decide) ?_)
    refine pn_ex ?_
    obtain rfl : i = 4 := by omega
    have eL := lst_uni hl hL hm; have eU := mst_uni hl hU hM
    refine nx (sl 4 rfl (sl 7 rfl (sl 8 rfl sn))) (el 12 rfl en) ?_
    refine tri_seq ?_
    refine tri_reg mixed hcx ?_ _ _
    refine mv rfl ?_
    refine caf rfl (h := iv_low) (hn := ?_)
    refine mv rfl ?_
    refine caf rfl (h := iv_high) (hn := ?_)
    refine bu stV rfl ?_
    refine st rfl rfl rfl tyV rfl ?_
    refine asg rfl ?_
    refine ⟨by kernel_rfl, ?_⟩
    refine nx (sl 4 rfl (sl 5 rfl sn)) (el 12 rfl en) ?_
    refine tri_ret ?_
    repeat (first | refine pn_thenr ?_ | refine pn_blkr ?_)
    exact ret2 hcx rfl (rv_cell (c' := cx) (n := 0) rfl rfl tyV rfl) (rv_tmp rfl) (tup_le ⟨st_le (l := [T.F (oLow (some p)), T.F (oHigh (some q))]) (l' := [T.F (oDn (some m)), T.F (oUp (some M))]) ⟨f_eq ((low_some p).trans eL), f_eq ((high_some q).trans eU), trivial⟩, .refl _, trivial⟩) en

theorem iv_Mul_no {a b c d : Option Nat} (h : oLe a b = false ∨ oLe c d = false) : Fn Try.prog 13 [T.st [T.F a, T.F b], T.st [T.F c, T.F d]] [] [] [] (T.tup [ZV, T.c (.int .i64 90)]) := by
  refine fn_of Try.func13 rfl (by show 2 ≤ 57; decide) fun cx hcx => ?_
  refine tri_sub (sl 0 rfl (sl 1 rfl sn)) en ?_
  refine tri_seq ?_
  refine tri_reg mixed hcx ?_ _ _
  refine bxs 10 rfl ?_
  refine bxs 11 rfl ?_
  refine nw 12 zeV ?_
  refine asg rfl ?_
  refine ⟨by kernel_rfl, ?_⟩
  refine nx (sl 2 rfl (sl 3 rfl (sl 4 rfl sn))) (el 10 rfl (el 11 rfl (el 12 rfl en))) ?_
  refine tri_seq ?_
  refine tri_seq ?_
  refine tri_reg mixed hcx ?_ _ _
  refine ld rfl rfl tyV rfl ?_
  refine ld rfl rfl tyV rfl ?_
  refine caf rfl (h := iv_both_f h) (hn := ?_)
  refine nt rfl _ rfl ?_
  refine ⟨by kernel_rfl, ?_⟩
  refine nx (sl 2 rfl (sl 3 rfl (sl 4 rfl (sl 14 rfl sn)))) (el 10 rfl (el 11 rfl (el 12 rfl en))) ?_
  refine tri_true rfl rfl ?_
  refine tri_seq ?_
  refine tri_reg mixed hcx ?_ _ _
  refine bu stV rfl ?_
  refine st rfl rfl rfl tyV rfl ?_
  refine asg rfl ?_
  refine ⟨by kernel_rfl, ?_⟩
  refine nx (sl 4 rfl (sl 5 rfl sn)) (el 10 rfl (el 11 rfl (el 12 rfl en))) ?_
  refine tri_ret ?_
  repeat (first | refine pn_thenr ?_ | refine pn_blkr ?_)
  exact ret2 hcx rfl (rv_cell (c' := cx) (n := 0) rfl rfl tyV rfl) (rv_tmp rfl) (.refl _) en

theorem less_pick (p x : Nat) (hp : NumF p) (hx : NumF x) : ∃ z, z = (if oLt (some x) (some p) = true then x else p) ∧ NumF z ∧ (z = p ∨ z = x) ∧ Fl.key z ≤ Fl.key p ∧ Fl.key z ≤ Fl.key x := by
  refine ⟨_, rfl, ?_⟩
  split
  · rename_i h
    have := of_decide_eq_true h
    exact ⟨hx, .inr rfl, by omega, by omega⟩
  · rename_i h
    have : ¬ Fl.key x < Fl.key p := fun h2 => h (decide_eq_true h2)
    exact ⟨hp, .inl rfl, by omega, by omega⟩
theorem more_pick (p x : Nat) (hp : NumF p) (hx : NumF x) : ∃ z, z = (if oLt (some p) (some x) = true then x else p) ∧ NumF z ∧ (z = p ∨ z = x) ∧ Fl.key p ≤ Fl.key z ∧ Fl.key x ≤ Fl.key z := by
  refine ⟨_, rfl, ?_⟩
  split
  · rename_i h
    have := of_decide_eq_true h
    exact ⟨hx, .inr rfl, by omega, by omega⟩
  · rename_i h
    have : ¬ Fl.key p < Fl.key x := fun h2 => h (decide_eq_true h2)
    exact ⟨hp, .inl rfl, by omega, by omega⟩
theorem pick_t {p x z : Nat} {b : Bool} (hz : z = (if b = true then x else p)) (h : b = true) : some x = some z := by rw [hz, if_pos h]
theorem pick_f {p x z : Nat} {b : Bool} (hz : z = (if b = true then x else p)) (h : b = false) : some p = some z := by rw [hz, if_neg (by rw [h]; decide)]

def oPl (o : Option Nat) : Option Nat := if oEq o (fo 0) = true then some 0 else o
theorem pl_z {o : Option Nat} (h : oEq o (fo 0) = true) : (T.c (.float .f64 0)).le (T.F (oPl o)) := fun β u v k => ⟨0, ⟨by decide, by rw [oPl, if_pos h]; decide⟩, k⟩
theorem pl_n {o : Option Nat} (h : oEq o (fo 0) = false) : o = oPl o := (if_neg (by rw [h]; decide)).symm
theorem fo0 : fo 0 = some 0 := by decide
theorem z_F0 : (T.c (.float .f64 0)).le (T.F (some 0)) := fun β u v k => ⟨0, ⟨by decide, by decide⟩, k⟩
theorem num0 : NumF 0 := ⟨by decide, by decide⟩
theorem pl0 : oPl (some 0) = some 0 := by decide
/-- What is greater, nought or this: told of its order alone. -/
theorem max0 {w : Nat} (hw : NumF w) : ∃ z, oMax (some 0) (some w) = some z ∧ NumF z ∧ (Fl.key w < 0 → z = 0) ∧ (¬ Fl.key w < 0 → Fl.key z = Fl.key w) := by
  obtain ⟨z, h1, h2, h3, h4, h5⟩ := max_num num0 hw
  rw [show Fl.key 0 = 0 from by decide] at h4
  refine ⟨z, h1, h2, fun h => ?_, fun h => ?_⟩
  · rcases h3 with rfl | rfl
    · rfl
    · omega
  · rcases h3 with rfl | rfl
    · rw [show Fl.key 0 = 0 from by decide] at h5 ⊢; omega
    · rfl
theorem eo_key {x y : Nat} (h : Fl.key x = Fl.key y) : oEq (some x) (some y) = true := decide_eq_true h
theorem pl_key {z : Nat} (hz : NumF z) : ∃ v, oPl (some z) = some v ∧ NumF v ∧ Fl.key v = Fl.key z := by
  unfold oPl
  split
  · rename_i h
    have : Fl.key z = Fl.key 0 := of_decide_eq_true h
    exact ⟨0, rfl, num0, this.symm⟩
  · exact ⟨z, rfl, hz, rfl⟩
/-- Where an interval crosses nought. -/
def crs (a b : Option Nat) : Bool := oLe a (fo 0) && oLe (fo 0) b
/-- The lower end of a square, in the program and in the document. -/
def sqP (c : Bool) (w : Nat) : Option Nat := oPl (if c = true then some 0 else oMax (some 0) (some w))
def sqR (c : Bool) (w : Nat) : Option Nat := if c = true ∨ oLt (some w) (fo 0) = true then some 0 else some w
theorem sq_eo {c : Bool} {w : Nat} (hw : NumF w) : oEq (sqP c w) (sqR c w) = true := by
  unfold sqP sqR
  cases c
  · obtain ⟨z, h1, h2, h3, h4⟩ := max0 hw
    rw [if_neg (by decide), h1]
    obtain ⟨v, k1, k2, k3⟩ := pl_key h2
    rw [k1]
    have e0 : Fl.key 0 = 0 := by decide
    have e : oLt (some w) (fo 0) = decide (Fl.key w < 0) := by rw [fo0]; show decide (Fl.key w < Fl.key 0) = _; rw [e0]
    rw [e]
    by_cases h : Fl.key w < 0
    · rw [if_pos (.inr (decide_eq_true h))]
      refine eo_key ?_
      rw [k3, h3 h]
    · rw [if_neg (by simp [h])]
      refine eo_key ?_
      rw [k3, h4 h]
  · rw [if_pos rfl, if_pos (.inl rfl), pl0]; decide

theorem iv_plus {o : Option Nat} : Fn Try.prog 37 [T.F o] [] [] [] (T.F (oPl o)) := by
  refine fn_of Try.func37 rfl (by show 1 ≤ 6; decide) fun cx hcx => ?_
  refine tri_sub (sl 0 rfl sn) en ?_
  refine tri_seq ?_
  refine tri_reg mixed hcx ?_ _ _
  refine asg rfl ?_
  refine ⟨by kernel_rfl, ?_⟩
  refine nx (sl 0 rfl sn) en ?_
  refine tri_seq ?_
  refine tri_seq ?_
  rcases Bool.eq_false_or_eq_true (oEq o (fo 0)) with h1 | h1
  · refine tri_reg mixed hcx ?_ _ _
    refine mv rfl ?_
    refine feq rfl rfl h1 ?_
    refine ⟨by kernel_rfl, ?_⟩
    refine nx (sl 0 rfl (sl 4 rfl sn)) en ?_
    refine tri_true rfl rfl ?_
    refine tri_seq ?_
    refine tri_reg mixed hcx ?_ _ _
    refine asg rfl ?_
    refine ⟨by kernel_rfl, ?_⟩
    refine nx (sl 2 rfl sn) en ?_
    refine tri_ret ?_
    repeat (first | refine pn_thenr ?_ | refine pn_blkr ?_)
    exact ret1 hcx rfl (rv_tmp rfl) (pl_z h1) en
  · refine tri_reg mixed hcx ?_ _ _
    refine mv rfl ?_
    refine feq rfl rfl h1 ?_
    refine ⟨by kernel_rfl, ?_⟩
    refine nx (sl 0 rfl (sl 4 rfl sn)) en ?_
    refine tri_false rfl rfl ?_
    refine tri_skip ?_
    refine nx (sl 0 rfl sn) en ?_
    refine tri_seq ?_
    refine tri_reg mixed hcx ?_ _ _
    refine mv rfl ?_
    refine asg rfl ?_
    refine ⟨by kernel_rfl, ?_⟩
    refine nx (sl 2 rfl sn) en ?_
    refine tri_ret ?_
    repeat (first | refine pn_thenr ?_ | refine pn_blkr ?_)
    exact ret1 hcx rfl (rv_tmp rfl) (f_eq (pl_n h1)) en

theorem iv_Sqr_c1 {a b : Option Nat} {x y m M w : Nat} (h : oLe a b = true) (ex : oTim a a = some x) (ey : oTim b b = some y) (nmx : NumF x) (nmy : NumF y) (hm : oMin (some x) (some y) = some m) (hM : oMax (some x) (some y) = some M) (hw : oDn (some m) = some w) (nmw : NumF w) (hc : oLe a (fo 0) = true) (hc2 : oLe (fo 0) b = true) : Fn Try.prog 14 [T.st [T.F a, T.F b]] [] [] [] (T.tup [T.st [T.F (sqP true w), T.F (oUp (some M))], T.c (.int .i64 0)]) := by
  refine fn_of Try.func14 rfl (by show 1 ≤ 46; decide) fun cx hcx => ?_
  refine tri_sub (sl 0 rfl sn) en ?_
  obtain ⟨z0, hz0, _⟩ := max0 nmw
  have hlw : oLow (oMin (some x) (some y)) = some w := by rw [hm, low_some, hw]
  refine tri_seq ?_
  refine tri_reg mixed hcx ?_ _ _
  refine bxs 10 rfl ?_
  refine nw 11 zeV ?_
  refine asg rfl ?_
  refine ⟨by kernel_rfl, ?_⟩
  refine nx (sl 1 rfl (sl 2 rfl sn)) (el 10 rfl (el 11 rfl en)) ?_
  refine tri_seq ?_
  refine tri_seq ?_
  refine tri_reg mixed hcx ?_ _ _
  refine ld rfl rfl tyV rfl ?_
  refine caf rfl (h := iv_Valid_t h) (hn := ?_)
  refine cne rfl rfl (decide_eq_false (by omega)) ?_
  refine ⟨by kernel_rfl, ?_⟩
  refine nx (sl 1 rfl (sl 2 rfl (sl 9 rfl sn))) (el 10 rfl (el 11 rfl en)) ?_
  refine tri_false rfl rfl ?_
  refine tri_skip ?_
  refine nx (sl 1 rfl (sl 2 rfl sn)) (el 10 rfl (el 11 rfl en)) ?_
  refine tri_seq ?_
  refine tri_reg mixed hcx ?_ _ _
  refine fa rfl fLo 0 ?_
  refine ld rfl rfl tyF rfl ?_
  refine fa rfl fLo 0 ?_
  refine ld rfl rfl tyF rfl ?_
  refine caf rfl (h := (fn_out iv_times (f_eq ex))) (hn := ?_)
  refine fa rfl fHi 1 ?_
  refine ld rfl rfl tyF rfl ?_
  refine fa rfl fHi 1 ?_
  refine ld rfl rfl tyF rfl ?_
  refine caf rfl (h := (fn_out iv_times (f_eq ey))) (hn := ?_)
  refine asg rfl ?_
  refine asg rfl ?_
  refine ⟨by kernel_rfl, ?_⟩
  refine nx (sl 1 rfl (sl 2 rfl (sl 4 rfl (sl 5 rfl sn)))) (el 10 rfl (el 11 rfl en)) ?_
  refine tri_seq ?_
  refine tri_reg mixed hcx ?_ _ _
  refine mv rfl ?_
  refine mv rfl ?_
  refine fmn rfl rfl rfl rfl ?_
  refine caf rfl (h := iv_low) (hn := ?_)
  refine fmx rfl rfl fo0 hlw ?_
  refine mv rfl ?_
  refine mv rfl ?_
  refine fmx rfl rfl rfl rfl ?_
  refine caf rfl (h := iv_high) (hn := ?_)
  refine bu stV rfl ?_
  refine nw 420 zeV ?_
  refine sts rfl rfl rfl tyV rfl ?_
  refine ⟨by kernel_rfl, ?_⟩
  refine nx (sl 1 rfl (sl 2 rfl (sl 6 rfl sn))) (el 10 rfl (el 11 rfl (el 420 rfl en))) ?_
  refine tri_seq ?_
  refine tri_seq ?_
  refine tri_reg mixed hcx ?_ _ _
  refine fa rfl fLo 0 ?_
  refine ld rfl rfl tyF rfl ?_
  refine fle rfl rfl hc ?_
  refine mv rfl ?_
  refine fa rfl fHi 1 ?_ (hg := gd1)
  refine ld rfl rfl tyF rfl ?_ (hg := gd1)
  refine fge rfl rfl hc2 ?_ (hg := gd1)
  refine pk rfl rfl ?_
  refine ⟨by kernel_rfl, ?_⟩
  refine nx (sl 2 rfl (sl 6 rfl (sl 38 rfl sn))) (el 10 rfl (el 11 rfl (el 420 rfl en))) ?_
  refine tri_true rfl rfl ?_
  refine tri_reg mixed hcx ?_ _ _
  refine fa rfl fLo 0 ?_
  refine st rfl rfl rfl tyF rfl ?_
  refine ⟨by kernel_rfl, ?_⟩
  refine nx (sl 2 rfl (sl 6 rfl sn)) (el 10 rfl (el 11 rfl (el 420 rfl en))) ?_
  refine tri_seq ?_
  refine tri_reg mixed hcx ?_ _ _
  refine fa rfl fLo 0 ?_
  refine ld rfl rfl tyF rfl ?_
  refine caf rfl (h := iv_plus) (hn := ?_)
  refine fa rfl fHi 1 ?_
  refine ld rfl rfl tyF rfl ?_
  refine bu stV rfl ?_
  refine st rfl rfl rfl tyV rfl ?_
  refine asg rfl ?_
  refine ⟨by kernel_rfl, ?_⟩
  refine nx (sl 2 rfl (sl 3 rfl sn)) (el 10 rfl (el 11 rfl (el 420 rfl en))) ?_
  refine tri_ret ?_
  repeat (first | refine pn_thenr ?_ | refine pn_blkr ?_)
  exact ret2 hcx rfl (rv_cell (c' := cx) (n := 0) rfl rfl tyV rfl) (rv_tmp rfl) (tup_le ⟨st_le (l := [T.F (oPl (fo 0)), T.F (oHigh (oMax (some x) (some y)))]) (l' := [T.F (sqP true w), T.F (oUp (some M))]) ⟨f_eq (show oPl (fo 0) = sqP true w from rfl), f_eq (by rw [hM, high_some]), trivial⟩, .refl _, trivial⟩) en

theorem iv_Sqr_c2 {a b : Option Nat} {x y m M w : Nat} (h : oLe a b = true) (ex : oTim a a = some x) (ey : oTim b b = some y) (nmx : NumF x) (nmy : NumF y) (hm : oMin (some x) (some y) = some m) (hM : oMax (some x) (some y) = some M) (hw : oDn (some m) = some w) (nmw : NumF w) (hc : oLe a (fo 0) = true) (hc2 : oLe (fo 0) b = false) : Fn Try.prog 14 [T.st [T.F a, T.F b]] [] [] [] (T.tup [T.st [T.F (sqP false w), T.F (oUp (some M))], T.c (.int .i64 0)]) := by
  refine fn_of Try.func14 rfl (by show 1 ≤ 46; decide) fun cx hcx => ?_
  refine tri_sub (sl 0 rfl sn) en ?_
  obtain ⟨z0, hz0, _⟩ := max0 nmw
  have hlw : oLow (oMin (some x) (some y)) = some w := by rw [hm, low_some, hw]
  refine tri_seq ?_
  refine tri_reg mixed hcx ?_ _ _
  refine bxs 10 rfl ?_
  refine nw 11 zeV ?_
  refine asg rfl ?_
  refine ⟨by kernel_rfl, ?_⟩
  refine nx (sl 1 rfl (sl 2 rfl sn)) (el 10 rfl (el 11 rfl en)) ?_
  refine tri_seq ?_
  refine tri_seq ?_
  refine tri_reg mixed hcx ?_ _ _
  refine ld rfl rfl tyV rfl ?_
  refine caf rfl (h := iv_Valid_t h) (hn := ?_)
  refine cne rfl rfl (decide_eq_false (by omega)) ?_
  refine ⟨by kernel_rfl, ?_⟩
  refine nx (sl 1 rfl (sl 2 rfl (sl 9 rfl sn))) (el 10 rfl (el 11 rfl en)) ?_
  refine tri_false rfl rfl ?_
  refine tri_skip ?_
  refine nx (sl 1 rfl (sl 2 rfl sn)) (el 10 rfl (el 11 rfl en)) ?_
  refine tri_seq ?_
  refine tri_reg mixed hcx ?_ _ _
  refine fa rfl fLo 0 ?_
  refine ld rfl rfl tyF rfl ?_
  refine fa rfl fLo 0 ?_
  refine ld rfl rfl tyF rfl ?_
  refine caf rfl (h := (fn_out iv_times (f_eq ex))) (hn := ?_)
  refine fa rfl fHi 1 ?_
  refine ld rfl rfl tyF rfl ?_
  refine fa rfl fHi 1 ?_
  refine ld rfl rfl tyF rfl ?_
  refine caf rfl (h := (fn_out iv_times (f_eq ey))) (hn := ?_)
  refine asg rfl ?_
  refine asg rfl ?_
  refine ⟨by kernel_rfl, ?_⟩
  refine nx (sl 1 rfl (sl 2 rfl (sl 4 rfl (sl 5 rfl sn)))) (el 10 rfl (el 11 rfl en)) ?_
  refine tri_seq ?_
  refine tri_reg mixed hcx ?_ _ _
  refine mv rfl ?_
  refine mv rfl ?_
  refine fmn rfl rfl rfl rfl ?_
  refine caf rfl (h := iv_low) (hn := ?_)
  refine fmx rfl rfl fo0 hlw ?_
  refine mv rfl ?_
  refine mv rfl ?_
  refine fmx rfl rfl rfl rfl ?_
  refine caf rfl (h := iv_high) (hn := ?_)
  refine bu stV rfl ?_
  refine nw 420 zeV ?_
  refine sts rfl rfl rfl tyV rfl ?_
  refine ⟨by kernel_rfl, ?_⟩
  refine nx (sl 1 rfl (sl 2 rfl (sl 6 rfl sn))) (el 10 rfl (el 11 rfl (el 420 rfl en))) ?_
  refine tri_seq ?_
  refine tri_seq ?_
  refine tri_reg mixed hcx ?_ _ _
  refine fa rfl fLo 0 ?_
  refine ld rfl rfl tyF rfl ?_
  refine fle rfl rfl hc ?_
  refine mv rfl ?_
  refine fa rfl fHi 1 ?_ (hg := gd1)
  refine ld rfl rfl tyF rfl ?_ (hg := gd1)
  refine fge rfl rfl hc2 ?_ (hg := gd1)
  refine pk rfl rfl ?_
  refine ⟨by kernel_rfl, ?_⟩
  refine nx (sl 2 rfl (sl 6 rfl (sl 38 rfl sn))) (el 10 rfl (el 11 rfl (el 420 rfl en))) ?_
  refine tri_false rfl rfl ?_
  refine tri_skip ?_
  refine nx (sl 2 rfl (sl 6 rfl sn)) (el 10 rfl (el 11 rfl (el 420 rfl en))) ?_
  refine tri_seq ?_
  refine tri_reg mixed hcx ?_ _ _
  refine fa rfl fLo 0 ?_
  refine ld rfl rfl tyF rfl ?_
  refine caf rfl (h := iv_plus) (hn := ?_)
  refine fa rfl fHi 1 ?_
  refine ld rfl rfl tyF rfl ?_
  refine bu stV rfl ?_
  refine st rfl rfl rfl tyV rfl ?_
  refine asg rfl ?_
  refine ⟨by kernel_rfl, ?_⟩
  refine nx (sl 2 rfl (sl 3 rfl sn)) (el 10 rfl (el 11 rfl (el 420 rfl en))) ?_
  refine tri_ret ?_
  repeat (first | refine pn_thenr ?_ | refine pn_blkr ?_)
  exact ret2 hcx rfl (rv_cell (c' := cx) (n := 0) rfl rfl tyV rfl) (rv_tmp rfl) (tup_le ⟨st_le (l := [T.F (oPl (oMax (some 0) (some w))), T.F (oHigh (oMax (some x) (some y)))]) (l' := [T.F (sqP false w), T.F (oUp (some M))]) ⟨f_eq (show oPl (oMax (some 0) (some w)) = sqP false w from rfl), f_eq (by rw [hM, high_some]), trivial⟩, .refl _, trivial⟩) en

theorem iv_Sqr_c3 {a b : Option Nat} {x y m M w : Nat} (h : oLe a b = true) (ex : oTim a a = some x) (ey : oTim b b = some y) (nmx : NumF x) (nmy : NumF y) (hm : oMin (some x) (some y) = some m) (hM : oMax (some x) (some y) = some M) (hw : oDn (some m) = some w) (nmw : NumF w) (hc : oLe a (fo 0) = false) : Fn Try.prog 14 [T.st [T.F a, T.F b]] [] [] [] (T.tup [T.st [T.F (sqP false w), T.F (oUp (some M))], T.c (.int .i64 0)]) := by
  refine fn_of Try.func14 rfl (by show 1 ≤ 46; decide) fun cx hcx => ?_
  refine tri_sub (sl 0 rfl sn) en ?_
  obtain ⟨z0, hz0, _⟩ := max0 nmw
  have hlw : oLow (oMin (some x) (some y)) = some w := by rw [hm, low_some, hw]
  refine tri_seq ?_
  refine tri_reg mixed hcx ?_ _ _
  refine bxs 10 rfl ?_
  refine nw 11 zeV ?_
  refine asg rfl ?_
  refine ⟨by kernel_rfl, ?_⟩
  refine nx (sl 1 rfl (sl 2 rfl sn)) (el 10 rfl (el 11 rfl en)) ?_
  refine tri_seq ?_
  refine tri_seq ?_
  refine tri_reg mixed hcx ?_ _ _
  refine ld rfl rfl tyV rfl ?_
  refine caf rfl (h := iv_Valid_t h) (hn := ?_)
  refine cne rfl rfl (decide_eq_false (by omega)) ?_
  refine ⟨by kernel_rfl, ?_⟩
  refine nx (sl 1 rfl (sl 2 rfl (sl 9 rfl sn))) (el 10 rfl (el 11 rfl en)) ?_
  refine tri_false rfl rfl ?_
  refine tri_skip ?_
  refine nx (sl 1 rfl (sl 2 rfl sn)) (el 10 rfl (el 11 rfl en)) ?_
  refine tri_seq ?_
  refine tri_reg mixed hcx ?_ _ _
  refine fa rfl fLo 0 ?_
  refine ld rfl rfl tyF rfl ?_
  refine fa rfl fLo 0 ?_
  refine ld rfl rfl tyF rfl ?_
  refine caf rfl (h := (fn_out iv_times (f_eq ex))) (hn := ?_)
  refine fa rfl fHi 1 ?_
  refine ld rfl rfl tyF rfl ?_
  refine fa rfl fHi 1 ?_
  refine ld rfl rfl tyF rfl ?_
  refine caf rfl (h := (fn_out iv_times (f_eq ey))) (hn := ?_)
  refine asg rfl ?_
  refine asg rfl ?_
  refine ⟨by kernel_rfl, ?_⟩
  refine nx (sl 1 rfl (sl 2 rfl (sl 4 rfl (sl 5 rfl sn)))) (el 10 rfl (el 11 rfl en)) ?_
  refine tri_seq ?_
  refine tri_reg mixed hcx ?_ _ _
  refine mv rfl ?_
  refine mv rfl ?_
  refine fmn rfl rfl rfl rfl ?_
  refine caf rfl (h := iv_low) (hn := ?_)
  refine fmx rfl rfl fo0 hlw ?_
  refine mv rfl ?_
  refine mv rfl ?_
  refine fmx rfl rfl rfl rfl ?_
  refine caf rfl (h := iv_high) (hn := ?_)
  refine bu stV rfl ?_
  refine nw 420 zeV ?_
  refine sts rfl rfl rfl tyV rfl ?_
  refine ⟨by kernel_rfl, ?_⟩
  refine nx (sl 1 rfl (sl 2 rfl (sl 6 rfl sn))) (el 10 rfl (el 11 rfl (el 420 rfl en))) ?_
  refine tri_seq ?_
  refine tri_seq ?_
  refine tri_reg mixed hcx ?_ _ _
  refine fa rfl fLo 0 ?_
  refine ld rfl rfl tyF rfl ?_
  refine fle rfl rfl hc ?_
  refine mv rfl ?_
  refine j_off rfl rfl rfl rfl ?_
  refine j_off rfl rfl rfl rfl ?_
  refine j_off rfl rfl rfl rfl ?_
  refine pk rfl rfl ?_
  refine ⟨by kernel_rfl, ?_⟩
  refine nx (sl 2 rfl (sl 6 rfl (sl 38 rfl sn))) (el 10 rfl (el 11 rfl (el 420 rfl en))) ?_
  refine tri_false rfl rfl ?_
  refine tri_skip ?_
  refine nx (sl 2 rfl (sl 6 rfl sn)) (el 10 rfl (el 11 rfl (el 420 rfl en))) ?_
  refine tri_seq ?_
  refine tri_reg mixed hcx ?_ _ _
  refine fa rfl fLo 0 ?_
  refine ld rfl rfl tyF rfl ?_
  refine caf rfl (h := iv_plus) (hn := ?_)
  refine fa rfl fHi 1 ?_
  refine ld rfl rfl tyF rfl ?_
  refine bu stV rfl ?_
  refine st rfl rfl rfl tyV rfl ?_
  refine asg rfl ?_
  refine ⟨by kernel_rfl, ?_⟩
  refine nx (sl 2 rfl (sl 3 rfl sn)) (el 10 rfl (el 11 rfl (el 420 rfl en))) ?_
  refine tri_ret ?_
  repeat (first | refine pn_thenr ?_ | refine pn_blkr ?_)
  exact ret2 hcx rfl (rv_cell (c' := cx) (n := 0) rfl rfl tyV rfl) (rv_tmp rfl) (tup_le ⟨st_le (l := [T.F (oPl (oMax (some 0) (some w))), T.F (oHigh (oMax (some x) (some y)))]) (l' := [T.F (sqP false w), T.F (oUp (some M))]) ⟨f_eq (show oPl (oMax (some 0) (some w)) = sqP false w from rfl), f_eq (by rw [hM, high_some]), trivial⟩, .refl _, trivial⟩) en

theorem iv_Sqr_no {a b : Option Nat} (h : oLe a b = false) : Fn Try.prog 14 [T.st [T.F a, T.F b]] [] [] [] (T.tup [ZV, T.c (.int .i64 90)]) := by
  refine fn_of Try.func14 rfl (by show 1 ≤ 46; decide) fun cx hcx => ?_
  refine tri_sub (sl 0 rfl sn) en ?_
  refine tri_seq ?_
  refine tri_reg mixed hcx ?_ _ _
  refine bxs 10 rfl ?_
  refine nw 11 zeV ?_
  refine asg rfl ?_
  refine ⟨by kernel_rfl, ?_⟩
  refine nx (sl 1 rfl (sl 2 rfl sn)) (el 10 rfl (el 11 rfl en)) ?_
  refine tri_seq ?_
  refine tri_seq ?_
  refine tri_reg mixed hcx ?_ _ _
  refine ld rfl rfl tyV rfl ?_
  refine caf rfl (h := iv_Valid_f h) (hn := ?_)
  refine cne rfl rfl (decide_eq_true (by omega)) ?_
  refine ⟨by kernel_rfl, ?_⟩
  refine nx (sl 1 rfl (sl 2 rfl (sl 9 rfl sn))) (el 10 rfl (el 11 rfl en)) ?_
  refine tri_true rfl rfl ?_
  refine tri_seq ?_
  refine tri_reg mixed hcx ?_ _ _
  refine bu stV rfl ?_
  refine st rfl rfl rfl tyV rfl ?_
  refine asg rfl ?_
  refine ⟨by kernel_rfl, ?_⟩
  refine nx (sl 2 rfl (sl 3 rfl sn)) (el 10 rfl (el 11 rfl en)) ?_
  refine tri_ret ?_
  repeat (first | refine pn_thenr ?_ | refine pn_blkr ?_)
  exact ret2 hcx rfl (rv_cell (c' := cx) (n := 0) rfl rfl tyV rfl) (rv_tmp rfl) (.refl _) en

theorem l9_equal2 {o p : Option Nat} (h : oEq o p = true) : Fn Try.prog 43 [T.F o, T.F p] [] [] [] (T.c (.bool true)) := by
  refine fn_of Try.func43 rfl (by show 2 ≤ 18; decide) fun cx hcx => ?_
  refine tri_sub (sl 0 rfl (sl 1 rfl sn)) en ?_
  refine tri_seq ?_
  refine tri_reg mixed hcx ?_ _ _
  refine asg rfl ?_
  refine ⟨by kernel_rfl, ?_⟩
  refine nx (sl 0 rfl (sl 1 rfl sn)) en ?_
  refine tri_seq ?_
  refine tri_reg mixed hcx ?_ _ _
  refine mv rfl ?_
  refine mv rfl ?_
  refine feq rfl rfl h ?_
  refine mv rfl ?_
  refine j_off rfl rfl rfl rfl ?_
  refine j_off rfl rfl rfl rfl ?_
  refine j_off rfl rfl rfl rfl ?_
  refine j_off rfl rfl rfl rfl ?_
  refine j_ofu rfl rfl rfl ?_
  refine j_ofu rfl rfl rfl ?_
  refine j_ofu rfl rfl rfl ?_
  refine j_off rfl rfl rfl rfl ?_
  refine pk rfl rfl ?_
  refine asg rfl ?_
  refine ⟨by kernel_rfl, ?_⟩
  refine nx (sl 4 rfl sn) en ?_
  refine tri_ret ?_
  repeat (first | refine pn_thenr ?_ | refine pn_blkr ?_)
  exact ret1 hcx rfl (rv_tmp rfl) (.refl _) en

theorem l9_eq {o p : Option Nat} (h : o = p ∨ oEq o p = true) : Fn Try.prog 43 [T.F o, T.F p] [] [] [] (T.c (.bool true)) := by
  rcases h with rfl | h
  · exact l9_equal
  · exact l9_equal2 h
/-- The squares: what both come to. -/
theorem crs_cases (a b : Option Nat) : (oLe a (fo 0) = true ∧ oLe (fo 0) b = true) ∨ (oLe a (fo 0) = true ∧ oLe (fo 0) b = false) ∨ oLe a (fo 0) = false := by
  cases oLe a (fo 0) <;> cases oLe (fo 0) b <;> simp
theorem l9_same2 {a b c d : Option Nat} (hE1 : a = c ∨ oEq a c = true) (hE2 : b = d ∨ oEq b d = true) : Fn Try.prog 20 [T.st [T.F a, T.F b], T.st [T.F c, T.F d]] [] [] [] (T.c (.bool true)) := by
  refine fn_of Try.func20 rfl (by show 2 ≤ 17; decide) fun cx hcx => ?_
  refine tri_sub (sl 0 rfl (sl 1 rfl sn)) en ?_
  refine tri_seq ?_
  refine tri_reg mixed hcx ?_ _ _
  refine bxs 10 rfl ?_
  refine bxs 11 rfl ?_
  refine asg rfl ?_
  refine ⟨by kernel_rfl, ?_⟩
  refine nx (sl 2 rfl (sl 3 rfl sn)) (el 10 rfl (el 11 rfl en)) ?_
  refine tri_seq ?_
  refine tri_reg mixed hcx ?_ _ _
  refine fa rfl fLo 0 ?_
  refine ld rfl rfl tyF rfl ?_
  refine fa rfl fLo 0 ?_
  refine ld rfl rfl tyF rfl ?_
  refine caf rfl (h := (l9_eq hE1)) (hn := ?_)
  refine mv rfl ?_
  refine fa rfl fHi 1 ?_ (hg := gd1)
  refine ld rfl rfl tyF rfl ?_ (hg := gd1)
  refine fa rfl fHi 1 ?_ (hg := gd1)
  refine ld rfl rfl tyF rfl ?_ (hg := gd1)
  refine caf rfl (h := (l9_eq hE2)) (hn := ?_) (hg := gd1)
  refine pk rfl rfl ?_
  refine asg rfl ?_
  refine ⟨by kernel_rfl, ?_⟩
  refine nx (sl 4 rfl sn) (el 10 rfl (el 11 rfl en)) ?_
  refine tri_ret ?_
  repeat (first | refine pn_thenr ?_ | refine pn_blkr ?_)
  exact ret1 hcx rfl (rv_tmp rfl) (.refl _) en

/-- An argument's floats are words. -/
theorem fn_word {P : Program} {f : FuncId} {a b : Option Nat} {As : List T} {R : T} (h : (∃ q, q < 18446744073709551616 ∧ fo q = a) → (∃ q, q < 18446744073709551616 ∧ fo q = b) → Fn P f (T.st [T.F a, T.F b] :: As) [] [] [] R) : Fn P f (T.st [T.F a, T.F b] :: As) [] [] [] R := fun vs β u w F hs hr hH => by
  match vs, hr with
  | v :: r, ⟨⟨cs, e, hc⟩, hr'⟩ => exact h (cells_F (mem0 a b) hc) (cells_F (mem1 a b) hc) (v :: r) β u w F hs ⟨⟨cs, e, hc⟩, hr'⟩ hH
theorem fn_word2 {P : Program} {f : FuncId} {a b : Option Nat} {A0 : T} {As : List T} {R : T} (h : (∃ q, q < 18446744073709551616 ∧ fo q = a) → (∃ q, q < 18446744073709551616 ∧ fo q = b) → Fn P f (A0 :: T.st [T.F a, T.F b] :: As) [] [] [] R) : Fn P f (A0 :: T.st [T.F a, T.F b] :: As) [] [] [] R := fun vs β u w F hs hr hH => by
  match vs, hr with
  | v0 :: v :: r, ⟨h0, ⟨cs, e, hc⟩, hr'⟩ => exact h (cells_F (mem0 a b) hc) (cells_F (mem1 a b) hc) (v0 :: v :: r) β u w F hs ⟨h0, ⟨cs, e, hc⟩, hr'⟩ hH
end Go.Proofs.Ytlmiadjogdfjkaa.V
