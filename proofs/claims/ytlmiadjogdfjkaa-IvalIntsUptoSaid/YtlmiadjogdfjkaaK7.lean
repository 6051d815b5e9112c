/- Contracts: fractions, data of rows. -/
import Derived.Test.YtlmiadjogdfjkaaK6
set_option linter.unusedVariables false
set_option linter.unusedSimpArgs false
set_option maxRecDepth 100000
namespace Go.Proofs.Ytlmiadjogdfjkaa.V
open Go.RowKit Mt Nml
theorem sg_ne {z : Int} (h : z ≠ 0) : sg z ≠ 0 := fun e => h (sg_eq_zero.1 e)

theorem rat_mk {a b : Int} {k l : Nat} (hb : b ≠ 0) (hk : k ≤ 1099511627776) (hl : l ≤ 1099511627776) : Fn Try.prog 82 [T.Zi a k, T.Zi b l] [] [] [] (T.Q ((a : Rat) / b) (k + l)) := by
  refine fn_of Try.func82 rfl (by show 2 ≤ 35; decide) fun cx hcx => ?_
  refine tri_sub (sl 0 rfl (sl 1 rfl sn)) en ?_
  refine tri_seq ?_
  refine tri_reg mixed hcx ?_ _ _
  refine bx 10 rfl ?_
  refine bx 11 rfl ?_
  refine nw 12 zeQ ?_
  refine ⟨by kernel_rfl, ?_⟩
  refine nx (sl 2 rfl (sl 3 rfl (sl 4 rfl sn))) (el 10 rfl (el 11 rfl (el 12 rfl en))) ?_
  refine tri_seq ?_
  refine tri_seq ?_
  refine tri_reg mixed hcx ?_ _ _
  refine ld rfl rfl tyZ rfl ?_
  refine ca rfl (h := zi_Sign (by omega)) (hn := ?_)
  refine clt rfl rfl rfl ?_
  refine ⟨by kernel_rfl, ?_⟩
  refine nx (sl 2 rfl (sl 3 rfl (sl 4 rfl (sl 12 rfl sn)))) (el 10 rfl (el 11 rfl (el 12 rfl en))) ?_
  refine tri_if rfl (fun hc => ?_) (fun hc => ?_)
  · have hb0 := sg_lt.1 hc
    have hgz : ((Int.gcd (-a) (-b) : Nat) : Int) ≠ 0 := gcd_nz (by omega)
    have hdx : ((Int.gcd (-a) (-b) : Nat) : Int) ∣ -a := Int.gcd_dvd_left ..; have hdy : ((Int.gcd (-a) (-b) : Nat) : Int) ∣ -b := Int.gcd_dvd_right ..; have hmx : max k l ≤ 1099511627776 := Nat.max_le.2 ⟨hk, hl⟩
    have hrm := rat_made (x := -a) (y := -b) (by omega); rw [rat_neg] at hrm
    refine tri_reg mixed hcx ?_ _ _
    refine ld rfl rfl tyZ rfl ?_
    refine ca rfl (h := zi_Neg (by omega)) (hn := ?_)
    refine ld rfl rfl tyZ rfl ?_
    refine ca rfl (h := zi_Neg (by omega)) (hn := ?_)
    refine st rfl rfl rfl tyZ rfl ?_
    refine st rfl rfl rfl tyZ rfl ?_
    refine ⟨by kernel_rfl, ?_⟩
    refine nx (sl 2 rfl (sl 3 rfl (sl 4 rfl sn))) (el 10 rfl (el 11 rfl (el 12 rfl en))) ?_
    refine tri_seq ?_
    refine tri_reg mixed hcx ?_ _ _
    refine ld rfl rfl tyZ rfl ?_
    refine ld rfl rfl tyZ rfl ?_
    refine ca rfl (h := zi_Gcd (by omega) (by omega)) (hn := ?_)
    refine nw 313 zeZ ?_
    refine st rfl rfl rfl tyZ rfl ?_
    refine ⟨by kernel_rfl, ?_⟩
    refine nx (sl 2 rfl (sl 3 rfl (sl 4 rfl (sl 5 rfl sn)))) (el 10 rfl (el 11 rfl (el 12 rfl (el 313 rfl en)))) ?_
    refine tri_seq ?_
    refine tri_reg mixed hcx ?_ _ _
    refine ld rfl rfl tyZ rfl ?_
    refine ld rfl rfl tyZ rfl ?_
    refine ca rfl (h := zi_Exact (by assumption) (by assumption) (by omega) (by omega)) (hn := ?_)
    refine mv rfl ?_
    refine ex rfl rfl ?_
    refine ex rfl rfl ?_
    refine nw 416 zeZ ?_
    refine st rfl rfl rfl tyZ rfl ?_
    refine asg rfl ?_
    refine ⟨by kernel_rfl, ?_⟩
    refine nx (sl 3 rfl (sl 4 rfl (sl 5 rfl (sl 6 rfl sn)))) (el 10 rfl (el 11 rfl (el 12 rfl (el 313 rfl (el 416 rfl en))))) ?_
    refine tri_seq ?_
    refine tri_reg mixed hcx ?_ _ _
    refine ld rfl rfl tyZ rfl ?_
    refine ld rfl rfl tyZ rfl ?_
    refine ca rfl (h := zi_Exact (by assumption) (by assumption) (by omega) (by omega)) (hn := ?_)
    refine mv rfl ?_
    refine ex rfl rfl ?_
    refine ex rfl rfl ?_
    refine nw 516 zeZ ?_
    refine st rfl rfl rfl tyZ rfl ?_
    refine asg rfl ?_
    refine ⟨by kernel_rfl, ?_⟩
    refine nx (sl 4 rfl (sl 6 rfl (sl 8 rfl sn))) (el 10 rfl (el 11 rfl (el 12 rfl (el 313 rfl (el 416 rfl (el 516 rfl en)))))) ?_
    refine tri_seq ?_
    refine tri_reg mixed hcx ?_ _ _
    refine ld rfl rfl tyZ rfl ?_
    refine ld rfl rfl tyZ rfl ?_
    refine bu stQ rfl ?_
    refine st rfl rfl rfl tyQ rfl ?_
    refine ⟨by kernel_rfl, ?_⟩
    refine nx (sl 4 rfl sn) (el 10 rfl (el 11 rfl (el 12 rfl (el 313 rfl (el 416 rfl (el 516 rfl en)))))) ?_
    refine tri_ret ?_
    repeat (first | refine pn_thenr ?_ | refine pn_blkr ?_)
    exact ret1 hcx rfl (rv_cell (c' := cx) (n := 0) rfl rfl tyQ rfl) (q_mk hrm.1 hrm.2 (by omega) (by omega)) en
  · have hb0 : 0 < b := by have : ¬ b < 0 := fun h => hc (sg_lt.2 h); omega
    have hgz : ((Int.gcd (a) (b) : Nat) : Int) ≠ 0 := gcd_nz (by omega)
    have hdx : ((Int.gcd (a) (b) : Nat) : Int) ∣ a := Int.gcd_dvd_left ..; have hdy : ((Int.gcd (a) (b) : Nat) : Int) ∣ b := Int.gcd_dvd_right ..; have hmx : max k l ≤ 1099511627776 := Nat.max_le.2 ⟨hk, hl⟩
    have hrm := rat_made (x := a) (y := b) (by omega)
    refine tri_skip ?_
    refine nx (sl 2 rfl (sl 3 rfl (sl 4 rfl sn))) (el 10 rfl (el 11 rfl (el 12 rfl en))) ?_
    refine tri_seq ?_
    refine tri_reg mixed hcx ?_ _ _
    refine ld rfl rfl tyZ rfl ?_
    refine ld rfl rfl tyZ rfl ?_
    refine ca rfl (h := zi_Gcd (by omega) (by omega)) (hn := ?_)
    refine nw 313 zeZ ?_
    refine st rfl rfl rfl tyZ rfl ?_
    refine ⟨by kernel_rfl, ?_⟩
    refine nx (sl 2 rfl (sl 3 rfl (sl 4 rfl (sl 5 rfl sn)))) (el 10 rfl (el 11 rfl (el 12 rfl (el 313 rfl en)))) ?_
    refine tri_seq ?_
    refine tri_reg mixed hcx ?_ _ _
    refine ld rfl rfl tyZ rfl ?_
    refine ld rfl rfl tyZ rfl ?_
    refine ca rfl (h := zi_Exact (by assumption) (by assumption) (by omega) (by omega)) (hn := ?_)
    refine mv rfl ?_
    refine ex rfl rfl ?_
    refine ex rfl rfl ?_
    refine nw 416 zeZ ?_
    refine st rfl rfl rfl tyZ rfl ?_
    refine asg rfl ?_
    refine ⟨by kernel_rfl, ?_⟩
    refine nx (sl 3 rfl (sl 4 rfl (sl 5 rfl (sl 6 rfl sn)))) (el 10 rfl (el 11 rfl (el 12 rfl (el 313 rfl (el 416 rfl en))))) ?_
    refine tri_seq ?_
    refine tri_reg mixed hcx ?_ _ _
    refine ld rfl rfl tyZ rfl ?_
    refine ld rfl rfl tyZ rfl ?_
    refine ca rfl (h := zi_Exact (by assumption) (by assumption) (by omega) (by omega)) (hn := ?_)
    refine mv rfl ?_
    refine ex rfl rfl ?_
    refine ex rfl rfl ?_
    refine nw 516 zeZ ?_
    refine st rfl rfl rfl tyZ rfl ?_
    refine asg rfl ?_
    refine ⟨by kernel_rfl, ?_⟩
    refine nx (sl 4 rfl (sl 6 rfl (sl 8 rfl sn))) (el 10 rfl (el 11 rfl (el 12 rfl (el 313 rfl (el 416 rfl (el 516 rfl en)))))) ?_
    refine tri_seq ?_
    refine tri_reg mixed hcx ?_ _ _
    refine ld rfl rfl tyZ rfl ?_
    refine ld rfl rfl tyZ rfl ?_
    refine bu stQ rfl ?_
    refine st rfl rfl rfl tyQ rfl ?_
    refine ⟨by kernel_rfl, ?_⟩
    refine nx (sl 4 rfl sn) (el 10 rfl (el 11 rfl (el 12 rfl (el 313 rfl (el 416 rfl (el 516 rfl en)))))) ?_
    refine tri_ret ?_
    repeat (first | refine pn_thenr ?_ | refine pn_blkr ?_)
    exact ret1 hcx rfl (rv_cell (c' := cx) (n := 0) rfl rfl tyQ rfl) (q_mk hrm.1 hrm.2 (by omega) (by omega)) en

theorem rat_Make {a b : Int} {k l : Nat} (hb : b ≠ 0) (hk : k ≤ 1099511627776) (hl : l ≤ 1099511627776) : Fn Try.prog 55 [T.Zi a k, T.Zi b l] [] [] [] (T.tup [T.Q ((a : Rat) / b) (k + l), T.c (.int .i64 0)]) := by
  refine fn_of Try.func55 rfl (by show 2 ≤ 13; decide) fun cx hcx => ?_
  refine tri_sub (sl 0 rfl (sl 1 rfl sn)) en ?_
  have hsb := sg_ne hb
  refine tri_seq ?_
  refine tri_reg mixed hcx ?_ _ _
  refine bx 10 rfl ?_
  refine bx 11 rfl ?_
  refine nw 12 zeQ ?_
  refine asg rfl ?_
  refine ⟨by kernel_rfl, ?_⟩
  refine nx (sl 2 rfl (sl 3 rfl (sl 4 rfl sn))) (el 10 rfl (el 11 rfl (el 12 rfl en))) ?_
  refine tri_seq ?_
  refine tri_seq ?_
  refine tri_reg mixed hcx ?_ _ _
  refine ld rfl rfl tyZ rfl ?_
  refine ca rfl (h := zi_Sign (by omega)) (hn := ?_)
  refine ceq rfl rfl (decide_eq_false (by omega)) ?_
  refine ⟨by kernel_rfl, ?_⟩
  refine nx (sl 2 rfl (sl 3 rfl (sl 4 rfl (sl 8 rfl sn)))) (el 10 rfl (el 11 rfl (el 12 rfl en))) ?_
  refine tri_false rfl rfl ?_
  refine tri_skip ?_
  refine nx (sl 2 rfl (sl 3 rfl (sl 4 rfl sn))) (el 10 rfl (el 11 rfl (el 12 rfl en))) ?_
  refine tri_seq ?_
  refine tri_reg mixed hcx ?_ _ _
  refine ld rfl rfl tyZ rfl ?_
  refine ld rfl rfl tyZ rfl ?_
  refine ca rfl (h := rat_mk (by assumption) (by omega) (by omega)) (hn := ?_)
  refine st rfl rfl rfl tyQ rfl ?_
  refine asg rfl ?_
  refine ⟨by kernel_rfl, ?_⟩
  refine nx (sl 4 rfl (sl 5 rfl sn)) (el 10 rfl (el 11 rfl (el 12 rfl en))) ?_
  refine tri_ret ?_
  repeat (first | refine pn_thenr ?_ | refine pn_blkr ?_)
  exact ret2 hcx rfl (rv_cell (c' := cx) (n := 0) rfl rfl tyQ rfl) (rv_tmp rfl) (.refl _) en

theorem rat_Of {z : Int} {k : Nat} (hk : k ≤ 17592186044416) : Fn Try.prog 45 [T.Zi z k] [] [] [] (T.Q (z : Rat) (k + 2)) := by
  refine fn_of Try.func45 rfl (by show 1 ≤ 7; decide) fun cx hcx => ?_
  refine tri_sub (sl 0 rfl sn) en ?_
  refine tri_seq ?_
  refine tri_reg mixed hcx ?_ _ _
  refine bx 10 rfl ?_
  refine nw 11 zeQ ?_
  refine ⟨by kernel_rfl, ?_⟩
  refine nx (sl 1 rfl (sl 2 rfl sn)) (el 10 rfl (el 11 rfl en)) ?_
  refine tri_seq ?_
  refine tri_reg mixed hcx ?_ _ _
  refine ld rfl rfl tyZ rfl ?_
  refine ca rfl (h := zi_Form (by omega)) (hn := ?_)
  refine ca rfl (h := zi_Of (by omega) (by omega)) (hn := ?_)
  refine bu stQ rfl ?_
  refine st rfl rfl rfl tyQ rfl ?_
  refine ⟨by kernel_rfl, ?_⟩
  refine nx (sl 2 rfl sn) (el 10 rfl (el 11 rfl en)) ?_
  refine tri_ret ?_
  repeat (first | refine pn_thenr ?_ | refine pn_blkr ?_)
  exact ret1 hcx rfl (rv_cell (c' := cx) (n := 0) rfl rfl tyQ rfl) (q_mk (rat_whole z).1 (rat_whole z).2 (by omega) (by omega)) en

instance {α : Type} (c : Cod α) (l : List α) : IsS ((cL c).X l) l.length := inferInstanceAs (IsS (T.l c l) l.length)
instance {α : Type} (c : Cod α) (l : List α) : IsI ((cL c).X l) c l := inferInstanceAs (IsI (T.l c l) c l)
instance {α : Type} (c : Cod α) (l : List α) : IsL ((cL c).X l) c l := inferInstanceAs (IsL (T.l c l) c l)
/-- Data of rows, of the right shape. -/
def GoodP (D : List Int) (L : List (List Int)) : Prop := 0 < L.length ∧ D.length = L.length + 1 ∧ D.getD 0 0 = 1 ∧ ∀ i, i < L.length → (L.getD i []).length = i ∧ 0 < D.getD (i + 1) 0
theorem sgnc_eq0 {a b : Int} : sgnc a b = 0 ↔ a = b := by unfold sgnc; split <;> (try split) <;> omega
theorem sg_le {z : Int} : sg z ≤ 0 ↔ z ≤ 0 := by unfold sg sgnc; split <;> (try split) <;> omega
theorem b_no {q : Bool} {p : Prop} (hq : q = true ↔ p) (h : ¬ p) : (T.c (.bool false)).le (T.c (.bool q)) := by
  cases q with
  | false => exact .refl _
  | true => exact absurd (hq.1 rfl) h
theorem b_yes {q : Bool} {p : Prop} (hq : q = true ↔ p) (h : p) : (T.c (.bool true)).le (T.c (.bool q)) := by rw [hq.2 h]; exact .refl _
theorem l_get {α : Type} (c : Cod α) (l : List α) (i : Nat) (d : α) (h : i < l.length) : l.getD i c.dflt = l.getD i d := by rw [List.getD_eq_getElem?_getD, List.getD_eq_getElem?_getD, List.getElem?_eq_getElem h]; rfl

end Go.Proofs.Ytlmiadjogdfjkaa.V
