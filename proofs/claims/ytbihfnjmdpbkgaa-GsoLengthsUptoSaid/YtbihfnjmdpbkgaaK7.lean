/- Contracts: fractions, data of rows. -/
import Derived.Test.YtbihfnjmdpbkgaaK6
set_option linter.unusedVariables false
set_option linter.unusedSimpArgs false
set_option maxRecDepth 100000
namespace Go.Proofs.Ytbihfnjmdpbkgaa.V
open Go.RowKit Mt Nml
theorem sg_ne {z : Int} (h : z ≠ 0) : sg z ≠ 0 := fun e => h (sg_eq_zero.1 e)

theorem rat_mk {a b : Int} {k l : Nat} (hb : b ≠ 0) (hk : k ≤ 1099511627776) (hl : l ≤ 1099511627776) : Fn Try.prog 141 [T.Zi a k, T.Zi b l] [] [] [] (T.Q ((a : Rat) / b) (k + l)) := by
  refine fn_of Try.func141 rfl (by show 2 ≤ 35; decide) fun cx hcx => ?_
  refine tri_sub (sl 0 rfl (sl 1 rfl sn)) en ?_
  refine tri_seq ?_
  refine tri_reg mixed hcx ?_ _ _
  refine bx 10 rfl ?_
  refine bx 11 rfl ?_
  refine nw 12 zeQ ?_
  refine ⟨by kernel_rfl, ?_⟩
  refine nx (sl 2 rfl (sl 3 rfl (sl 4 rfl sn))) (el 10 rfl (el 11 rfl (el 12 rfl en))) ?_
  refine tri_seq ?_
  refine tri_seq ?_
  refine tri_reg mixed hcx ?_ _ _
  refine ld rfl rfl tyZ rfl ?_
  refine ca rfl (h := zi_Sign (by omega)) (hn := ?_)
  refine clt rfl rfl rfl ?_
  refine ⟨by kernel_rfl, ?_⟩
  refine nx (sl 2 rfl (sl 3 rfl (sl 4 rfl (sl 12 rfl sn)))) (el 10 rfl (el 11 rfl (el 12 rfl en))) ?_
  refine tri_if rfl (fun hc => ?_) (fun hc => ?_)
  · have hb0 := sg_lt.1 hc
    have hgz : ((Int.gcd (-a) (-b) : Nat) : Int) ≠ 0 := gcd_nz (by omega)
    have hdx : ((Int.gcd (-a) (-b) : Nat) : Int) ∣ -a := Int.gcd_dvd_left ..; have hdy : ((Int.gcd (-a) (-b) : Nat) : Int) ∣ -b := Int.gcd_dvd_right ..; have hmx : max k l ≤ 1099511627776 := Nat.max_le.2 ⟨hk, hl⟩
    have hrm := rat_made (x := -a) (y := -b) (by omega); rw [rat_neg] at hrm
    refine tri_reg mixed hcx ?_ _ _
    refine ld rfl rfl tyZ rfl ?_
    refine ca rfl (h := zi_Neg (by omega)) (hn := ?_)
    refine ld rfl rfl tyZ rfl ?_
    refine ca rfl (h := zi_Neg (by omega)) (hn := ?_)
    refine st rfl rfl rfl tyZ rfl ?_
    refine st rfl rfl rfl tyZ rfl ?_
    refine ⟨by kernel_rfl, ?_⟩
    refine nx (sl 2 rfl (sl 3 rfl (sl 4 rfl sn))) (el 10 rfl (el 11 rfl (el 12 rfl en))) ?_
    refine tri_seq ?_
    refine tri_reg mixed hcx ?_ _ _
    refine ld rfl rfl tyZ rfl ?_
    refine ld rfl rfl tyZ rfl ?_
    refine ca rfl (h := zi_Gcd (by omega) (by omega)) (hn := ?_)
    refine nw 313 zeZ ?_
    refine st rfl rfl rfl tyZ rfl ?_
    refine ⟨by kernel_rfl, ?_⟩
    refine nx (sl 2 rfl (sl 3 rfl (sl 4 rfl (sl 5 rfl sn)))) (el 10 rfl (el 11 rfl (el 12 rfl (el 313 rfl en)))) ?_
    refine tri_seq ?_
    refine tri_reg mixed hcx ?_ _ _
    refine ld rfl rfl tyZ rfl ?_
    refine ld rfl rfl tyZ rfl ?_
    refine ca rfl (h := zi_Exact (by assumption) (by assumption) (by omega) (by omega)) (hn := ?_)
    refine mv rfl ?_
    refine ex rfl rfl ?_
    refine ex rfl rfl ?_
    refine nw 416 zeZ ?_
    refine st rfl rfl rfl tyZ rfl ?_
    refine asg rfl ?_
    refine ⟨by kernel_rfl, ?_⟩
    refine nx (sl 3 rfl (sl 4 rfl (sl 5 rfl (sl 6 rfl sn)))) (el 10 rfl (el 11 rfl (el 12 rfl (el 313 rfl (el 416 rfl en))))) ?_
    refine tri_seq ?_
    refine tri_reg mixed hcx ?_ _ _
    refine ld rfl rfl tyZ rfl ?_
    refine ld rfl rfl tyZ rfl ?_
    refine ca rfl (h := zi_Exact (by assumption) (by assumption) (by omega) (by omega)) (hn := ?_)
    refine mv rfl ?_
    refine ex rfl rfl ?_
    refine ex rfl rfl ?_
    refine nw 516 zeZ ?_
    refine st rfl rfl rfl tyZ rfl ?_
    refine asg rfl ?_
    refine ⟨by kernel_rfl, ?_⟩
    refine nx (sl 4 rfl (sl 6 rfl (sl 8 rfl sn))) (el 10 rfl (el 11 rfl (el 12 rfl (el 313 rfl (el 416 rfl (el 516 rfl en)))))) ?_
    refine tri_seq ?_
    refine tri_reg mixed hcx ?_ _ _
    refine ld rfl rfl tyZ rfl ?_
    refine ld rfl rfl tyZ rfl ?_
    refine bu stQ rfl ?_
    refine st rfl rfl rfl tyQ rfl ?_
    refine ⟨by kernel_rfl, ?_⟩
    refine nx (sl 4 rfl sn) (el 10 rfl (el 11 rfl (el 12 rfl (el 313 rfl (el 416 rfl (el 516 rfl en)))))) ?_
    refine tri_ret ?_
    repeat (first | refine pn_thenr ?_ | refine pn_blkr ?_)
    exact ret1 hcx rfl (rv_cell (c' := cx) (n := 0) rfl rfl tyQ rfl) (q_mk hrm.1 hrm.2 (by omega) (by omega)) en
  · have hb0 : 0 < b := by have : ¬ b < 0 := fun h => hc (sg_lt.2 h); omega
    have hgz : ((Int.gcd (a) (b) : Nat) : Int) ≠ 0 := gcd_nz (by omega)
    have hdx : ((Int.gcd (a) (b) : Nat) : Int) ∣ a := Int.gcd_dvd_left ..; have hdy : ((Int.gcd (a) (b) : Nat) : Int) ∣ b := Int.gcd_dvd_right ..; have hmx : max k l ≤ 1099511627776 := Nat.max_le.2 ⟨hk, hl⟩
    have hrm := rat_made (x := a) (y := b) (by omega)
    refine tri_skip ?_
    refine nx (sl 2 rfl (sl 3 rfl (sl 4 rfl sn))) (el 10 rfl (el 11 rfl (el 12 rfl en))) ?_
    refine tri_seq ?_
    refine tri_reg mixed hcx ?_ _ _
    refine ld rfl rfl tyZ rfl ?_
    refine ld rfl rfl tyZ rfl ?_
    refine ca rfl (h := zi_Gcd (by omega) (by omega)) (hn := ?_)
    refine nw 313 zeZ ?_
    refine st rfl rfl rfl tyZ rfl ?_
    refine ⟨by kernel_rfl, ?_⟩
    refine nx (sl 2 rfl (sl 3 rfl (sl 4 rfl (sl 5 rfl sn)))) (el 10 rfl (el 11 rfl (el 12 rfl (el 313 rfl en)))) ?_
    refine tri_seq ?_
    refine tri_reg mixed hcx ?_ _ _
    refine ld rfl rfl tyZ rfl ?_
    refine ld rfl rfl tyZ rfl ?_
    refine ca rfl (h := zi_Exact (by assumption) (by assumption) (by omega) (by omega)) (hn := ?_)
    refine mv rfl ?_
    refine ex rfl rfl ?_
    refine ex rfl rfl ?_
    refine nw 416 zeZ ?_
    refine st rfl rfl rfl tyZ rfl ?_
    refine asg rfl ?_
    refine ⟨by kernel_rfl, ?_⟩
    refine nx (sl 3 rfl (sl 4 rfl (sl 5 rfl (sl 6 rfl sn)))) (el 10 rfl (el 11 rfl (el 12 rfl (el 313 rfl (el 416 rfl en))))) ?_
    refine tri_seq ?_
    refine tri_reg mixed hcx ?_ _ _
    refine ld rfl rfl tyZ rfl ?_
    refine ld rfl rfl tyZ rfl ?_
    refine ca rfl (h := zi_Exact (by assumption) (by assumption) (by omega) (by omega)) (hn := ?_)
    refine mv rfl ?_
    refine ex rfl rfl ?_
    refine ex rfl rfl ?_
    refine nw 516 zeZ ?_
    refine st rfl rfl rfl tyZ rfl ?_
    refine asg rfl ?_
    refine ⟨by kernel_rfl, ?_⟩
    refine nx (sl 4 rfl (sl 6 rfl (sl 8 rfl sn))) (el 10 rfl (el 11 rfl (el 12 rfl (el 313 rfl (el 416 rfl (el 516 rfl en)))))) ?_
    refine tri_seq ?_
    refine tri_reg mixed hcx ?_ _ _
    refine ld rfl rfl tyZ rfl ?_
    refine ld rfl rfl tyZ rfl ?_
    refine bu stQ rfl ?_
    refine st rfl rfl rfl tyQ rfl ?_
    refine ⟨by kernel_rfl, ?_⟩
    refine nx (sl 4 rfl sn) (el 10 rfl (el 11 rfl (el 12 rfl (el 313 rfl (el 416 rfl (el 516 rfl en)))))) ?_
    refine tri_ret ?_
    repeat (first | refine pn_thenr ?_ | refine pn_blkr ?_)
    exact ret1 hcx rfl (rv_cell (c' := cx) (n := 0) rfl rfl tyQ rfl) (q_mk hrm.1 hrm.2 (by omega) (by omega)) en

theorem rat_Make {a b : Int} {k l : Nat} (hb : b ≠ 0) (hk : k ≤ 1099511627776) (hl : l ≤ 1099511627776) : Fn Try.prog 89 [T.Zi a k, T.Zi b l] [] [] [] (T.tup [T.Q ((a : Rat) / b) (k + l), T.c (.int .i64 0)]) := by
  refine fn_of Try.func89 rfl (by show 2 ≤ 13; decide) fun cx hcx => ?_
  refine tri_sub (sl 0 rfl (sl 1 rfl sn)) en ?_
  have hsb := sg_ne hb
  refine tri_seq ?_
  refine tri_reg mixed hcx ?_ _ _
  refine bx 10 rfl ?_
  refine bx 11 rfl ?_
  refine nw 12 zeQ ?_
  refine asg rfl ?_
  refine ⟨by kernel_rfl, ?_⟩
  refine nx (sl 2 rfl (sl 3 rfl (sl 4 rfl sn))) (el 10 rfl (el 11 rfl (el 12 rfl en))) ?_
  refine tri_seq ?_
  refine tri_seq ?_
  refine tri_reg mixed hcx ?_ _ _
  refine ld rfl rfl tyZ rfl ?_
  refine ca rfl (h := zi_Sign (by omega)) (hn := ?_)
  refine ceq rfl rfl (decide_eq_false (by omega)) ?_
  refine ⟨by kernel_rfl, ?_⟩
  refine nx (sl 2 rfl (sl 3 rfl (sl 4 rfl (sl 8 rfl sn)))) (el 10 rfl (el 11 rfl (el 12 rfl en))) ?_
  refine tri_false rfl rfl ?_
  refine tri_skip ?_
  refine nx (sl 2 rfl (sl 3 rfl (sl 4 rfl sn))) (el 10 rfl (el 11 rfl (el 12 rfl en))) ?_
  refine tri_seq ?_
  refine tri_reg mixed hcx ?_ _ _
  refine ld rfl rfl tyZ rfl ?_
  refine ld rfl rfl tyZ rfl ?_
  refine ca rfl (h := rat_mk (by assumption) (by omega) (by omega)) (hn := ?_)
  refine st rfl rfl rfl tyQ rfl ?_
  refine asg rfl ?_
  refine ⟨by kernel_rfl, ?_⟩
  refine nx (sl 4 rfl (sl 5 rfl sn)) (el 10 rfl (el 11 rfl (el 12 rfl en))) ?_
  refine tri_ret ?_
  repeat (first | refine pn_thenr ?_ | refine pn_blkr ?_)
  exact ret2 hcx rfl (rv_cell (c' := cx) (n := 0) rfl rfl tyQ rfl) (rv_tmp rfl) (.refl _) en

theorem rat_Of {z : Int} {k : Nat} (hk : k ≤ 17592186044416) : Fn Try.prog 85 [T.Zi z k] [] [] [] (T.Q (z : Rat) (k + 2)) := by
  refine fn_of Try.func85 rfl (by show 1 ≤ 7; decide) fun cx hcx => ?_
  refine tri_sub (sl 0 rfl sn) en ?_
  refine tri_seq ?_
  refine tri_reg mixed hcx ?_ _ _
  refine bx 10 rfl ?_
  refine nw 11 zeQ ?_
  refine ⟨by kernel_rfl, ?_⟩
  refine nx (sl 1 rfl (sl 2 rfl sn)) (el 10 rfl (el 11 rfl en)) ?_
  refine tri_seq ?_
  refine tri_reg mixed hcx ?_ _ _
  refine ld rfl rfl tyZ rfl ?_
  refine ca rfl (h := zi_Form (by omega)) (hn := ?_)
  refine ca rfl (h := zi_Of (by omega) (by omega)) (hn := ?_)
  refine bu stQ rfl ?_
  refine st rfl rfl rfl tyQ rfl ?_
  refine ⟨by kernel_rfl, ?_⟩
  refine nx (sl 2 rfl sn) (el 10 rfl (el 11 rfl en)) ?_
  refine tri_ret ?_
  repeat (first | refine pn_thenr ?_ | refine pn_blkr ?_)
  exact ret1 hcx rfl (rv_cell (c' := cx) (n := 0) rfl rfl tyQ rfl) (q_mk (rat_whole z).1 (rat_whole z).2 (by omega) (by omega)) en

instance {α : Type} (c : Cod α) (l : List α) : IsS ((cL c).X l) l.length := inferInstanceAs (IsS (T.l c l) l.length)
instance {α : Type} (c : Cod α) (l : List α) : IsI ((cL c).X l) c l := inferInstanceAs (IsI (T.l c l) c l)
instance {α : Type} (c : Cod α) (l : List α) : IsL ((cL c).X l) c l := inferInstanceAs (IsL (T.l c l) c l)
/-- Data of rows, of the right shape. -/
def GoodP (D : List Int) (L : List (List Int)) : Prop := 0 < L.length ∧ D.length = L.length + 1 ∧ D.getD 0 0 = 1 ∧ ∀ i, i < L.length → (L.getD i []).length = i ∧ 0 < D.getD (i + 1) 0
theorem sgnc_eq0 {a b : Int} : sgnc a b = 0 ↔ a = b := by unfold sgnc; split <;> (try split) <;> omega
theorem sg_le {z : Int} : sg z ≤ 0 ↔ z ≤ 0 := by unfold sg sgnc; split <;> (try split) <;> omega
theorem b_no {q : Bool} {p : Prop} (hq : q = true ↔ p) (h : ¬ p) : (T.c (.bool false)).le (T.c (.bool q)) := by
  cases q with
  | false => exact .refl _
  | true => exact absurd (hq.1 rfl) h
theorem b_yes {q : Bool} {p : Prop} (hq : q = true ↔ p) (h : p) : (T.c (.bool true)).le (T.c (.bool q)) := by rw [hq.2 h]; exact .refl _
theorem l_get {α : Type} (c : Cod α) (l : List α) (i : Nat) (d : α) (h : i < l.length) : l.getD i c.dflt = l.getD i d := by rw [List.getD_eq_getElem?_getD, List.getD_eq_getElem?_getD, List.getElem?_eq_getElem h]; rfl

theorem g_good {D : List Int} {L : List (List Int)} {k : Nat} {q : Bool} (hq : q = true ↔ GoodP D L) (hk : k ≤ 1073741824) (hLl : L.length ≤ 1073741824) (hDl : D.length ≤ 1073741824) : Fn Try.prog 101 [T.G D L k] [] [] [] (T.c (.bool q)) := by
  refine fn_of Try.func101 rfl (by show 1 ≤ 51; decide) fun cx hcx => ?_
  refine tri_sub (sl 0 rfl sn) en ?_
  refine tri_seq ?_
  refine tri_reg mixed hcx ?_ _ _
  refine bxs 10 rfl ?_
  refine asg rfl ?_
  refine ⟨by kernel_rfl, ?_⟩
  refine nx (sl 1 rfl sn) (el 10 rfl en) ?_
  refine tri_seq ?_
  refine tri_seq ?_
  rcases Nat.eq_zero_or_pos L.length with hL | hL; rotate_left; rcases Nat.decEq D.length (L.length + 1) with hD | hD; rotate_left; rotate_left
  · refine tri_reg mixed hcx ?_ _ _
    refine fa rfl fL 1 ?_
    refine ld rfl rfl tyZss rfl ?_
    refine ln slZss rfl ?_
    refine ceq rfl rfl (decide_eq_true (by omega)) ?_
    refine mv rfl ?_
    refine j_off rfl rfl rfl rfl ?_
    refine j_off rfl rfl rfl rfl ?_
    refine j_off rfl rfl rfl rfl ?_
    refine j_off rfl rfl rfl rfl ?_
    refine j_off rfl rfl rfl rfl ?_
    refine j_off rfl rfl rfl rfl ?_
    refine j_off rfl rfl rfl rfl ?_
    refine j_off rfl rfl rfl rfl ?_
    refine pk rfl rfl ?_
    refine mv rfl ?_
    refine j_off rfl rfl rfl rfl ?_
    refine j_off rfl rfl rfl rfl ?_
    refine j_off rfl rfl rfl rfl ?_
    refine j_off rfl rfl rfl rfl ?_
    refine j_off rfl rfl rfl rfl ?_
    refine j_off rfl rfl rfl rfl ?_
    refine j_off rfl rfl rfl rfl ?_
    refine pk rfl rfl ?_
    refine ⟨by kernel_rfl, ?_⟩
    refine nx (sl 1 rfl (sl 27 rfl sn)) (el 10 rfl en) ?_
    refine tri_true rfl rfl ?_
    refine tri_seq ?_
    refine tri_reg mixed hcx ?_ _ _
    refine asg rfl ?_
    refine ⟨by kernel_rfl, ?_⟩
    refine nx (sl 2 rfl sn) (el 10 rfl en) ?_
    refine tri_ret ?_
    repeat (first | refine pn_thenr ?_ | refine pn_blkr ?_)
    exact ret1 hcx rfl (rv_tmp rfl) (b_no hq (fun h => by have := h.1; omega)) en
  · refine tri_reg mixed hcx ?_ _ _
    refine fa rfl fL 1 ?_
    refine ld rfl rfl tyZss rfl ?_
    refine ln slZss rfl ?_
    refine ceq rfl rfl (decide_eq_false (by omega)) ?_
    refine mv rfl ?_
    refine fa rfl fD 0 ?_ (hg := gd1)
    refine ld rfl rfl tyZs rfl ?_ (hg := gd1)
    refine ln slZs rfl ?_ (hg := gd1)
    refine fa rfl fL 1 ?_ (hg := gd1)
    refine ld rfl rfl tyZss rfl ?_ (hg := gd1)
    refine ln slZss rfl ?_ (hg := gd1)
    refine ad _ rfl rfl rfl ⟨rfl, by omega, by omega⟩ ?_ (hg := gd1)
    refine cne rfl rfl (decide_eq_true (by omega)) ?_ (hg := gd1)
    refine pk rfl rfl ?_
    refine mv rfl ?_
    refine j_off rfl rfl rfl rfl ?_
    refine j_off rfl rfl rfl rfl ?_
    refine j_off rfl rfl rfl rfl ?_
    refine j_off rfl rfl rfl rfl ?_
    refine j_off rfl rfl rfl rfl ?_
    refine j_off rfl rfl rfl rfl ?_
    refine j_off rfl rfl rfl rfl ?_
    refine pk rfl rfl ?_
    refine ⟨by kernel_rfl, ?_⟩
    refine nx (sl 1 rfl (sl 27 rfl sn)) (el 10 rfl en) ?_
    refine tri_true rfl rfl ?_
    refine tri_seq ?_
    refine tri_reg mixed hcx ?_ _ _
    refine asg rfl ?_
    refine ⟨by kernel_rfl, ?_⟩
    refine nx (sl 2 rfl sn) (el 10 rfl en) ?_
    refine tri_ret ?_
    repeat (first | refine pn_thenr ?_ | refine pn_blkr ?_)
    exact ret1 hcx rfl (rv_tmp rfl) (b_no hq (fun h => by have := h.2.1; omega)) en
  · refine tri_reg mixed hcx ?_ _ _
    refine fa rfl fL 1 ?_
    refine ld rfl rfl tyZss rfl ?_
    refine ln slZss rfl ?_
    refine ceq rfl rfl (decide_eq_false (by omega)) ?_
    refine mv rfl ?_
    refine fa rfl fD 0 ?_ (hg := gd1)
    refine ld rfl rfl tyZs rfl ?_ (hg := gd1)
    refine ln slZs rfl ?_ (hg := gd1)
    refine fa rfl fL 1 ?_ (hg := gd1)
    refine ld rfl rfl tyZss rfl ?_ (hg := gd1)
    refine ln slZss rfl ?_ (hg := gd1)
    refine ad _ rfl rfl rfl ⟨rfl, by omega, by omega⟩ ?_ (hg := gd1)
    refine cne rfl rfl (decide_eq_false (by omega)) ?_ (hg := gd1)
    refine pk rfl rfl ?_
    refine mv rfl ?_
    refine fa rfl fD 0 ?_ (hg := gd1)
    refine ld rfl rfl tyZs rfl ?_ (hg := gd1)
    refine ix rfl rfl slZs ⟨(rfl : _ = ((0 : Nat) : Int)), by omega⟩ ?_ (hg := gd1)
    refine lf rfl tyZ ?_ (hg := gd1)
    refine ca rfl (h := zi_Of (by omega) (by omega)) (hn := ?_) (hg := gd1)
    refine ca rfl (h := zi_Compare (by omega) (by omega)) (hn := ?_) (hg := gd1)
    refine cne rfl rfl rfl ?_ (hg := gd1)
    refine pk rfl rfl ?_
    refine ⟨by kernel_rfl, ?_⟩
    refine nx (sl 1 rfl (sl 27 rfl sn)) (el 10 rfl en) ?_
    refine tri_if rfl (fun hc => ?_) (fun hc => ?_)
    · refine tri_seq ?_
      refine tri_reg mixed hcx ?_ _ _
      refine asg rfl ?_
      refine ⟨by kernel_rfl, ?_⟩
      refine nx (sl 2 rfl sn) (el 10 rfl en) ?_
      refine tri_ret ?_
      repeat (first | refine pn_thenr ?_ | refine pn_blkr ?_)
      exact ret1 hcx rfl (rv_tmp rfl) (b_no hq (fun h => hc (sgnc_eq0.2 h.2.2.1))) en
    · have hD0 : D.getD 0 0 = 1 := sgnc_eq0.1 (Decidable.not_not.1 hc)
      refine tri_skip ?_
      refine nx (sl 1 rfl sn) (el 10 rfl en) ?_
      refine tri_seq ?_
      refine tri_seq ?_
      refine tri_reg mixed hcx ?_ _ _
      refine fa rfl fL 1 ?_
      refine ld rfl rfl tyZss rfl ?_
      refine ln slZss rfl ?_
      refine mv rfl ?_
      refine ⟨by kernel_rfl, ?_⟩
      refine nx (sl 1 rfl (sl 29 rfl (sl 30 rfl (sl 31 rfl sn)))) (el 10 rfl en) ?_
      refine tri_block ?_
      refine tri_loop (ι := Nat) (fun i => [(1, T.p 10 0), (29, T.l (cL (cZi k)) L), (30, T.c (.int .i64 (L.length : Int))), (31, T.c (.int .i64 (i : Int)))]) (fun i => [(10, some (Ent.box 26 [T.l (cZi k) D, T.l (cL (cZi k)) L]))]) (fun i => L.length - i) (fun i => (i ≤ L.length) ∧ (∀ j, j < i → (L.getD j []).length = j ∧ 0 < D.getD (j + 1) 0)) 0 ⟨Nat.zero_le _, fun j hj => absurd hj (Nat.not_lt_zero _)⟩ (sl 1 rfl (sl 29 rfl (sl 30 rfl (sl 31 rfl sn)))) (el 10 rfl en) ?_
      rintro i ⟨hi, hI⟩
      refine tri_sub (sl 1 rfl (sl 29 rfl (sl 30 rfl (sl 31 rfl sn)))) (el 10 rfl en) ?_
      refine tri_seq ?_
      refine tri_reg mixed hcx ?_ _ _
      refine clt rfl rfl rfl ?_
      refine ⟨by kernel_rfl, ?_⟩
      refine nx (sl 1 rfl (sl 29 rfl (sl 30 rfl (sl 31 rfl (sl 32 rfl sn))))) (el 10 rfl en) ?_
      refine tri_seq ?_
      refine tri_if rfl (fun hd => ?_) (fun hd => ?_)
      · refine tri_skip ?_
        refine nx (sl 1 rfl (sl 29 rfl (sl 30 rfl (sl 31 rfl sn)))) (el 10 rfl en) ?_
        refine tri_seq ?_
        refine tri_block ?_
        refine tri_seq ?_
        refine tri_reg mixed hcx ?_ _ _
        refine mv rfl ?_
        refine ix rfl rfl slZss ⟨rfl, by omega⟩ ?_
        refine lf rfl tyZs ?_
        refine asg rfl ?_
        refine asg rfl ?_
        refine ⟨by kernel_rfl, ?_⟩
        refine nx (sl 1 rfl (sl 3 rfl (sl 4 rfl (sl 29 rfl (sl 30 rfl (sl 31 rfl sn)))))) (el 10 rfl en) ?_
        refine tri_seq ?_
        by_cases hLi : (L.getD i []).length = i
        · refine tri_reg mixed hcx ?_ _ _
          refine mv rfl ?_
          refine ln slZs rfl ?_
          refine mv rfl ?_
          refine cne rfl rfl (decide_eq_false (fun h => h (Int.ofNat_inj.2 hLi))) ?_
          refine mv rfl ?_
          refine fa rfl fD 0 ?_ (hg := gd1)
          refine ld rfl rfl tyZs rfl ?_ (hg := gd1)
          refine mv rfl ?_ (hg := gd1)
          refine ad (((i + 1 : Nat) : Int)) rfl rfl rfl (by omega) ?_ (hg := gd1)
          refine ix rfl rfl slZs ⟨rfl, by omega⟩ ?_ (hg := gd1)
          refine lf rfl tyZ ?_ (hg := gd1)
          refine ca rfl (h := zi_Sign (by omega)) (hn := ?_) (hg := gd1)
          refine cle rfl rfl rfl ?_ (hg := gd1)
          refine pk rfl rfl ?_
          refine ⟨by kernel_rfl, ?_⟩
          refine nx (sl 1 rfl (sl 29 rfl (sl 30 rfl (sl 31 rfl (sl 49 rfl sn))))) (el 10 rfl en) ?_
          refine tri_if rfl (fun he => ?_) (fun he => ?_)
          · refine tri_seq ?_
            refine tri_reg mixed hcx ?_ _ _
            refine asg rfl ?_
            refine ⟨by kernel_rfl, ?_⟩
            refine nx (sl 2 rfl sn) (el 10 rfl en) ?_
            refine tri_ret ?_
            repeat (first | refine pn_thenr ?_ | refine pn_blkr ?_)
            exact ret1 hcx rfl (rv_tmp rfl) (b_no hq (fun h => by have := (h.2.2.2 i (by omega)).2; have h2 := sg_le.1 he; exact absurd this (Int.not_lt.2 h2))) en
          · have hDi : 0 < D.getD (i + 1) 0 := Int.not_le.1 fun h => he (sg_le.2 h)
            refine tri_skip ?_
            refine pn_blk ?_
            refine nx (sl 1 rfl (sl 29 rfl (sl 30 rfl (sl 31 rfl sn)))) (el 10 rfl en) ?_
            refine tri_reg mixed hcx ?_ _ _
            refine ad (((i + 1 : Nat) : Int)) rfl rfl rfl (by omega) ?_
            refine mv rfl ?_
            refine ⟨by kernel_rfl, ?_⟩
            exact pn_back (i + 1) (by first | omega | (dsimp only; omega)) ⟨by omega, fun j hj => by { rcases Nat.lt_or_eq_of_le (Nat.le_of_lt_succ hj) with h | h; { exact hI j h }; { subst h; exact ⟨hLi, hDi⟩ } }⟩ (sl 1 rfl (sl 29 rfl (sl 30 rfl (sl 31 rfl sn)))) (el 10 rfl en)
        · refine tri_reg mixed hcx ?_ _ _
          refine mv rfl ?_
          refine ln slZs rfl ?_
          refine mv rfl ?_
          refine cne rfl rfl (decide_eq_true (fun h => hLi (Int.ofNat_inj.1 h))) ?_
          refine mv rfl ?_
          refine j_off rfl rfl rfl rfl ?_
          refine j_off rfl rfl rfl rfl ?_
          refine j_off rfl rfl rfl rfl ?_
          refine j_off rfl rfl rfl rfl ?_
          refine j_off rfl rfl rfl rfl ?_
          refine j_off rfl rfl rfl rfl ?_
          refine j_off rfl rfl rfl rfl ?_
          refine j_off rfl rfl rfl rfl ?_
          refine pk rfl rfl ?_
          refine ⟨by kernel_rfl, ?_⟩
          refine nx (sl 1 rfl (sl 29 rfl (sl 30 rfl (sl 31 rfl (sl 49 rfl sn))))) (el 10 rfl en) ?_
          refine tri_true rfl rfl ?_
          refine tri_seq ?_
          refine tri_reg mixed hcx ?_ _ _
          refine asg rfl ?_
          refine ⟨by kernel_rfl, ?_⟩
          refine nx (sl 2 rfl sn) (el 10 rfl en) ?_
          refine tri_ret ?_
          repeat (first | refine pn_thenr ?_ | refine pn_blkr ?_)
          exact ret1 hcx rfl (rv_tmp rfl) (b_no hq (fun h => hLi (h.2.2.2 i (by omega)).1)) en
      · refine tri_exit ?_
        repeat (first | refine pn_then ?_ | refine pn_oth (by decide) ?_)
        refine pn_ex ?_
        refine nx sn (el 10 rfl en) ?_
        refine tri_seq ?_
        refine tri_reg mixed hcx ?_ _ _
        refine asg rfl ?_
        refine ⟨by kernel_rfl, ?_⟩
        refine nx (sl 2 rfl sn) (el 10 rfl en) ?_
        refine tri_ret ?_
        repeat (first | refine pn_thenr ?_ | refine pn_blkr ?_)
        exact ret1 hcx rfl (rv_tmp rfl) (b_yes hq ⟨hL, hD, hD0, fun j hj => hI j (by omega)⟩) en

theorem r05_Good {D : List Int} {L : List (List Int)} {k : Nat} {q : Bool} (hq : q = true ↔ GoodP D L) (hk : k ≤ 1073741824) (hLl : L.length ≤ 1073741824) (hDl : D.length ≤ 1073741824) : Fn Try.prog 43 [T.G D L k] [] [] [] (T.c (.bool q)) := by
  refine fn_of Try.func43 rfl (by show 1 ≤ 57; decide) fun cx hcx => ?_
  refine tri_sub (sl 0 rfl sn) en ?_
  refine tri_seq ?_
  refine tri_reg mixed hcx ?_ _ _
  refine bxs 10 rfl ?_
  refine asg rfl ?_
  refine ⟨by kernel_rfl, ?_⟩
  refine nx (sl 1 rfl sn) (el 10 rfl en) ?_
  refine tri_seq ?_
  refine tri_seq ?_
  rcases Nat.eq_zero_or_pos L.length with hL | hL; rotate_left; rcases Nat.decEq D.length (L.length + 1) with hD | hD; rotate_left; rotate_left
  · refine tri_reg mixed hcx ?_ _ _
    refine fa rfl fL 1 ?_
    refine ld rfl rfl tyZss rfl ?_
    refine ln slZss rfl ?_
    refine ceq rfl rfl (decide_eq_true (by omega)) ?_
    refine mv rfl ?_
    refine j_off rfl rfl rfl rfl ?_
    refine j_off rfl rfl rfl rfl ?_
    refine j_off rfl rfl rfl rfl ?_
    refine j_off rfl rfl rfl rfl ?_
    refine j_off rfl rfl rfl rfl ?_
    refine j_off rfl rfl rfl rfl ?_
    refine j_off rfl rfl rfl rfl ?_
    refine j_off rfl rfl rfl rfl ?_
    refine pk rfl rfl ?_
    refine mv rfl ?_
    refine j_off rfl rfl rfl rfl ?_
    refine j_off rfl rfl rfl rfl ?_
    refine j_off rfl rfl rfl rfl ?_
    refine j_off rfl rfl rfl rfl ?_
    refine j_off rfl rfl rfl rfl ?_
    refine j_off rfl rfl rfl rfl ?_
    refine j_off rfl rfl rfl rfl ?_
    refine pk rfl rfl ?_
    refine ⟨by kernel_rfl, ?_⟩
    refine nx (sl 1 rfl (sl 27 rfl sn)) (el 10 rfl en) ?_
    refine tri_true rfl rfl ?_
    refine tri_seq ?_
    refine tri_reg mixed hcx ?_ _ _
    refine asg rfl ?_
    refine ⟨by kernel_rfl, ?_⟩
    refine nx (sl 2 rfl sn) (el 10 rfl en) ?_
    refine tri_ret ?_
    repeat (first | refine pn_thenr ?_ | refine pn_blkr ?_)
    exact ret1 hcx rfl (rv_tmp rfl) (b_no hq (fun h => by have := h.1; omega)) en
  · refine tri_reg mixed hcx ?_ _ _
    refine fa rfl fL 1 ?_
    refine ld rfl rfl tyZss rfl ?_
    refine ln slZss rfl ?_
    refine ceq rfl rfl (decide_eq_false (by omega)) ?_
    refine mv rfl ?_
    refine fa rfl fD 0 ?_ (hg := gd1)
    refine ld rfl rfl tyZs rfl ?_ (hg := gd1)
    refine ln slZs rfl ?_ (hg := gd1)
    refine fa rfl fL 1 ?_ (hg := gd1)
    refine ld rfl rfl tyZss rfl ?_ (hg := gd1)
    refine ln slZss rfl ?_ (hg := gd1)
    refine ad _ rfl rfl rfl ⟨rfl, by omega, by omega⟩ ?_ (hg := gd1)
    refine cne rfl rfl (decide_eq_true (by omega)) ?_ (hg := gd1)
    refine pk rfl rfl ?_
    refine mv rfl ?_
    refine j_off rfl rfl rfl rfl ?_
    refine j_off rfl rfl rfl rfl ?_
    refine j_off rfl rfl rfl rfl ?_
    refine j_off rfl rfl rfl rfl ?_
    refine j_off rfl rfl rfl rfl ?_
    refine j_off rfl rfl rfl rfl ?_
    refine j_off rfl rfl rfl rfl ?_
    refine pk rfl rfl ?_
    refine ⟨by kernel_rfl, ?_⟩
    refine nx (sl 1 rfl (sl 27 rfl sn)) (el 10 rfl en) ?_
    refine tri_true rfl rfl ?_
    refine tri_seq ?_
    refine tri_reg mixed hcx ?_ _ _
    refine asg rfl ?_
    refine ⟨by kernel_rfl, ?_⟩
    refine nx (sl 2 rfl sn) (el 10 rfl en) ?_
    refine tri_ret ?_
    repeat (first | refine pn_thenr ?_ | refine pn_blkr ?_)
    exact ret1 hcx rfl (rv_tmp rfl) (b_no hq (fun h => by have := h.2.1; omega)) en
  · refine tri_reg mixed hcx ?_ _ _
    refine fa rfl fL 1 ?_
    refine ld rfl rfl tyZss rfl ?_
    refine ln slZss rfl ?_
    refine ceq rfl rfl (decide_eq_false (by omega)) ?_
    refine mv rfl ?_
    refine fa rfl fD 0 ?_ (hg := gd1)
    refine ld rfl rfl tyZs rfl ?_ (hg := gd1)
    refine ln slZs rfl ?_ (hg := gd1)
    refine fa rfl fL 1 ?_ (hg := gd1)
    refine ld rfl rfl tyZss rfl ?_ (hg := gd1)
    refine ln slZss rfl ?_ (hg := gd1)
    refine ad _ rfl rfl rfl ⟨rfl, by omega, by omega⟩ ?_ (hg := gd1)
    refine cne rfl rfl (decide_eq_false (by omega)) ?_ (hg := gd1)
    refine pk rfl rfl ?_
    refine mv rfl ?_
    refine fa rfl fD 0 ?_ (hg := gd1)
    refine ld rfl rfl tyZs rfl ?_ (hg := gd1)
    refine ix rfl rfl slZs ⟨(rfl : _ = ((0 : Nat) : Int)), by omega⟩ ?_ (hg := gd1)
    refine lf rfl tyZ ?_ (hg := gd1)
    refine ca rfl (h := r02_Of (by omega) (by omega)) (hn := ?_) (hg := gd1)
    refine ca rfl (h := r02_Cmp (by omega) (by omega)) (hn := ?_) (hg := gd1)
    refine cne rfl rfl rfl ?_ (hg := gd1)
    refine pk rfl rfl ?_
    refine ⟨by kernel_rfl, ?_⟩
    refine nx (sl 1 rfl (sl 27 rfl sn)) (el 10 rfl en) ?_
    refine tri_if rfl (fun hc => ?_) (fun hc => ?_)
    · refine tri_seq ?_
      refine tri_reg mixed hcx ?_ _ _
      refine asg rfl ?_
      refine ⟨by kernel_rfl, ?_⟩
      refine nx (sl 2 rfl sn) (el 10 rfl en) ?_
      refine tri_ret ?_
      repeat (first | refine pn_thenr ?_ | refine pn_blkr ?_)
      exact ret1 hcx rfl (rv_tmp rfl) (b_no hq (fun h => hc (sgnc_eq0.2 h.2.2.1))) en
    · have hD0 : D.getD 0 0 = 1 := sgnc_eq0.1 (Decidable.not_not.1 hc)
      refine tri_skip ?_
      refine nx (sl 1 rfl sn) (el 10 rfl en) ?_
      refine tri_seq ?_
      refine tri_seq ?_
      refine tri_reg mixed hcx ?_ _ _
      refine asg rfl ?_
      refine ⟨by kernel_rfl, ?_⟩
      refine nx (sl 1 rfl (sl 3 rfl sn)) (el 10 rfl en) ?_
      refine tri_block ?_
      refine tri_loop (ι := Nat) (fun i => [(1, T.p 10 0), (3, T.c (.int .i64 (i : Int)))]) (fun i => [(10, some (Ent.box 26 [T.l (cZi k) D, T.l (cL (cZi k)) L]))]) (fun i => D.length - i) (fun i => (i ≤ D.length) ∧ (∀ j, j < i → 0 < D.getD j 0)) 0 ⟨Nat.zero_le _, fun j hj => absurd hj (Nat.not_lt_zero _)⟩ (sl 1 rfl (sl 3 rfl sn)) (el 10 rfl en) ?_
      rintro i ⟨hi, hI⟩
      refine tri_sub (sl 1 rfl (sl 3 rfl sn)) (el 10 rfl en) ?_
      refine tri_seq ?_
      refine tri_seq ?_
      refine tri_reg mixed hcx ?_ _ _
      refine mv rfl ?_
      refine fa rfl fD 0 ?_
      refine ld rfl rfl tyZs rfl ?_
      refine ln slZs rfl ?_
      refine clt rfl rfl rfl ?_
      refine ⟨by kernel_rfl, ?_⟩
      refine nx (sl 1 rfl (sl 3 rfl (sl 32 rfl sn))) (el 10 rfl en) ?_
      refine tri_if rfl (fun hd => ?_) (fun hd => ?_)
      · refine tri_skip ?_
        refine nx (sl 1 rfl (sl 3 rfl sn)) (el 10 rfl en) ?_
        refine tri_seq ?_
        refine tri_block ?_
        refine tri_seq ?_
        refine tri_reg mixed hcx ?_ _ _
        refine fa rfl fD 0 ?_
        refine ld rfl rfl tyZs rfl ?_
        refine mv rfl ?_
        refine ix rfl rfl slZs ⟨rfl, by omega⟩ ?_
        refine lf rfl tyZ ?_
        refine ca rfl (h := r02_Sign (by omega)) (hn := ?_)
        refine cle rfl rfl rfl ?_
        refine ⟨by kernel_rfl, ?_⟩
        refine nx (sl 1 rfl (sl 3 rfl (sl 41 rfl sn))) (el 10 rfl en) ?_
        refine tri_if rfl (fun he => ?_) (fun he => ?_)
        · refine tri_seq ?_
          refine tri_reg mixed hcx ?_ _ _
          refine asg rfl ?_
          refine ⟨by kernel_rfl, ?_⟩
          refine nx (sl 2 rfl sn) (el 10 rfl en) ?_
          refine tri_ret ?_
          repeat (first | refine pn_thenr ?_ | refine pn_blkr ?_)
          exact ret1 hcx rfl (rv_tmp rfl) (b_no hq (fun h => by have h2 := sg_le.1 he; cases i with | zero => exact absurd h.2.2.1 (fun h3 => by rw [show D.getD 0 (cZi k).dflt = D.getD 0 0 from rfl, h3] at h2; omega) | succ j => exact absurd (h.2.2.2 j (by omega)).2 (Int.not_lt.2 h2))) en
        · have hDi : 0 < D.getD i 0 := Int.not_le.1 fun h => he (sg_le.2 h)
          refine tri_skip ?_
          refine pn_blk ?_
          refine nx (sl 1 rfl (sl 3 rfl sn)) (el 10 rfl en) ?_
          refine tri_reg mixed hcx ?_ _ _
          refine mv rfl ?_
          refine ad (((i + 1 : Nat) : Int)) rfl rfl rfl (by omega) ?_
          refine asg rfl ?_
          refine ⟨by kernel_rfl, ?_⟩
          exact pn_back (i + 1) (by first | omega | (dsimp only; omega)) ⟨by omega, fun j hj => by { rcases Nat.lt_or_eq_of_le (Nat.le_of_lt_succ hj) with h | h; { exact hI j h }; { subst h; exact hDi } }⟩ (sl 1 rfl (sl 3 rfl sn)) (el 10 rfl en)
      · refine tri_exit ?_
        repeat (first | refine pn_then ?_ | refine pn_oth (by decide) ?_)
        refine pn_ex ?_
        refine nx (sl 1 rfl sn) (el 10 rfl en) ?_
        refine tri_seq ?_
        refine tri_seq ?_
        refine tri_reg mixed hcx ?_ _ _
        refine asg rfl ?_
        refine ⟨by kernel_rfl, ?_⟩
        refine nx (sl 1 rfl (sl 4 rfl sn)) (el 10 rfl en) ?_
        refine tri_block ?_
        refine tri_loop (ι := Nat) (fun m => [(1, T.p 10 0), (4, T.c (.int .i64 (m : Int)))]) (fun m => [(10, some (Ent.box 26 [T.l (cZi k) D, T.l (cL (cZi k)) L]))]) (fun m => L.length - m) (fun m => (m ≤ L.length) ∧ (∀ j, j < m → (L.getD j []).length = j)) 0 ⟨Nat.zero_le _, fun j hj => absurd hj (Nat.not_lt_zero _)⟩ (sl 1 rfl (sl 4 rfl sn)) (el 10 rfl en) ?_
        rintro m ⟨hm, hJ⟩
        refine tri_sub (sl 1 rfl (sl 4 rfl sn)) (el 10 rfl en) ?_
        refine tri_seq ?_
        refine tri_seq ?_
        refine tri_reg mixed hcx ?_ _ _
        refine mv rfl ?_
        refine fa rfl fL 1 ?_
        refine ld rfl rfl tyZss rfl ?_
        refine ln slZss rfl ?_
        refine clt rfl rfl rfl ?_
        refine ⟨by kernel_rfl, ?_⟩
        refine nx (sl 1 rfl (sl 4 rfl (sl 46 rfl sn))) (el 10 rfl en) ?_
        refine tri_if rfl (fun hg => ?_) (fun hg => ?_)
        · refine tri_skip ?_
          refine nx (sl 1 rfl (sl 4 rfl sn)) (el 10 rfl en) ?_
          refine tri_seq ?_
          refine tri_block ?_
          refine tri_seq ?_
          refine tri_reg mixed hcx ?_ _ _
          refine fa rfl fL 1 ?_
          refine ld rfl rfl tyZss rfl ?_
          refine mv rfl ?_
          refine ix rfl rfl slZss ⟨rfl, by omega⟩ ?_
          refine lf rfl tyZs ?_
          refine ln slZs rfl ?_
          refine mv rfl ?_
          refine cne rfl rfl rfl ?_
          refine ⟨by kernel_rfl, ?_⟩
          refine nx (sl 1 rfl (sl 4 rfl (sl 56 rfl sn))) (el 10 rfl en) ?_
          refine tri_if rfl (fun hf => ?_) (fun hf => ?_)
          · refine tri_seq ?_
            refine tri_reg mixed hcx ?_ _ _
            refine asg rfl ?_
            refine ⟨by kernel_rfl, ?_⟩
            refine nx (sl 2 rfl sn) (el 10 rfl en) ?_
            refine tri_ret ?_
            repeat (first | refine pn_thenr ?_ | refine pn_blkr ?_)
            exact ret1 hcx rfl (rv_tmp rfl) (b_no hq (fun h => hf (Int.ofNat_inj.2 (h.2.2.2 m (by omega)).1))) en
          · refine tri_skip ?_
            refine pn_blk ?_
            refine nx (sl 1 rfl (sl 4 rfl sn)) (el 10 rfl en) ?_
            refine tri_reg mixed hcx ?_ _ _
            refine mv rfl ?_
            refine ad (((m + 1 : Nat) : Int)) rfl rfl rfl (by omega) ?_
            refine asg rfl ?_
            refine ⟨by kernel_rfl, ?_⟩
            exact pn_back (m + 1) (by first | omega | (dsimp only; omega)) ⟨by omega, fun j hj => by { rcases Nat.lt_or_eq_of_le (Nat.le_of_lt_succ hj) with h | h; { exact hJ j h }; { subst h; exact Decidable.not_not.1 fun h => hf (fun h2 => h (Int.ofNat_inj.1 h2)) } }⟩ (sl 1 rfl (sl 4 rfl sn)) (el 10 rfl en)
        · refine tri_exit ?_
          repeat (first | refine pn_then ?_ | refine pn_oth (by decide) ?_)
          refine pn_ex ?_
          refine nx sn (el 10 rfl en) ?_
          refine tri_seq ?_
          refine tri_reg mixed hcx ?_ _ _
          refine asg rfl ?_
          refine ⟨by kernel_rfl, ?_⟩
          refine nx (sl 2 rfl sn) (el 10 rfl en) ?_
          refine tri_ret ?_
          repeat (first | refine pn_thenr ?_ | refine pn_blkr ?_)
          exact ret1 hcx rfl (rv_tmp rfl) (b_yes hq ⟨hL, hD, hD0, fun j hj => ⟨hJ j (by omega), hI (j + 1) (by omega)⟩⟩) en
end Go.Proofs.Ytbihfnjmdpbkgaa.V
