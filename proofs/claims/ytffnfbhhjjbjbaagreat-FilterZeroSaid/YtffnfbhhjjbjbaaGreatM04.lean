/- Intervals: what they hold. -/
import Derived.Test.YtffnfbhhjjbjbaaGreatM03
set_option linter.unusedVariables false
set_option linter.unusedSimpArgs false
set_option maxRecDepth 100000
namespace Go.Proofs.YtffnfbhhjjbjbaaGreat.V
open Go.RowKit Mt Nml
/-- A fraction however told. -/
abbrev T.Qi (a b : Int) (k : Nat) : T := T.st [T.Zi a k, T.Zi b k]
theorem qi_mono {a b : Int} {k k' : Nat} (h : k ≤ k') : (T.Qi a b k).le (T.Qi a b k') := st_le (l := [T.Zi a k, T.Zi b k]) (l' := [T.Zi a k', T.Zi b k']) ⟨zi_mono h, zi_mono h, trivial⟩
theorem q_qi (q : Rat) {k k' : Nat} (h : k ≤ k') : (T.Q q k).le (T.Qi q.num (q.den : Int) k') := st_le (l := [T.Z q.num k, T.Z (q.den : Int) k]) (l' := [T.Zi q.num k', T.Zi (q.den : Int) k']) ⟨(z_zi _ _).trans (zi_mono h), (z_zi _ _).trans (zi_mono h), trivial⟩
theorem rat_addG {a b c d : Int} (hb : b ≠ 0) (hd : d ≠ 0) : ((a * d + c * b : Int) : Rat) / ((b * d : Int) : Rat) = (a : Rat) / (b : Rat) + (c : Rat) / (d : Rat) := by
  rw [← Rat.divInt_eq_div, ← Rat.divInt_eq_div, ← Rat.divInt_eq_div, Rat.divInt_add_divInt _ _ hb hd]
theorem rat_mulG (a b c d : Int) : ((a * c : Int) : Rat) / ((b * d : Int) : Rat) = (a : Rat) / (b : Rat) * ((c : Rat) / (d : Rat)) := by
  rw [← Rat.divInt_eq_div, ← Rat.divInt_eq_div, ← Rat.divInt_eq_div, Rat.divInt_mul_divInt]
theorem rat_negG (a b : Int) : ((-a : Int) : Rat) / (b : Rat) = -((a : Rat) / (b : Rat)) := by
  rw [← Rat.divInt_eq_div, ← Rat.divInt_eq_div, Rat.neg_divInt]
theorem rat_nd (q : Rat) : ((q.num : Int) : Rat) / (((q.den : Int)) : Rat) = q := by rw [← Rat.divInt_eq_div, Rat.num_divInt_den]
instance (k : Nat) (q : Int × Int) : Sp ((cQi k).X q) [T.Zi q.1 k, T.Zi q.2 k] := inferInstanceAs (Sp (T.st [T.Zi q.1 k, T.Zi q.2 k]) _)
theorem two_pos {a b c d : Int} (hb : 0 < b) (hd : 0 < d) : ∀ i, i < [(a, b), (c, d)].length → 0 < ([(a, b), (c, d)].getD i (0, 0)).2 := fun i hi => by
  match i, hi with
  | 0, _ => exact hb
  | 1, _ => exact hd

theorem rat_validG {l : List (Int × Int)} {k : Nat} (hk : k ≤ 34359738368) (hl : l.length ≤ 1048576) (hp : ∀ i, i < l.length → 0 < (l.getD i (0, 0)).2) : Fn Tryz.prog 133 [T.l (cQi k) l] [] [] [] (T.c (.int .i64 0)) := by
  refine fn_of Tryz.func133 rfl (by show 1 ≤ 16; decide) fun cx hcx => ?_
  refine tri_sub (sl 0 rfl sn) en ?_
  refine tri_seq ?_
  refine tri_reg mixed hcx ?_ _ _
  refine asg rfl ?_
  refine ⟨by kernel_rfl, ?_⟩
  refine nx (sl 0 rfl sn) en ?_
  refine tri_seq ?_
  refine tri_seq ?_
  refine tri_reg mixed hcx ?_ _ _
  refine mv rfl ?_
  refine ln slQs rfl ?_
  refine mv rfl ?_
  refine ⟨by kernel_rfl, ?_⟩
  refine nx (sl 5 rfl (sl 6 rfl (sl 7 rfl sn))) en ?_
  refine tri_block ?_
  refine tri_loop (ι := Nat) (fun i => [(5, T.l (cQi k) l), (6, T.c (.int .i64 (l.length : Int))), (7, T.c (.int .i64 (i : Int)))]) (fun i => []) (fun i => l.length - i) (fun i => (i ≤ l.length)) 0 (Nat.zero_le _) (sl 5 rfl (sl 6 rfl (sl 7 rfl sn))) en ?_
  rintro i hi
  refine tri_sub (sl 5 rfl (sl 6 rfl (sl 7 rfl sn))) en ?_
  refine tri_seq ?_
  refine tri_reg mixed hcx ?_ _ _
  refine clt rfl rfl rfl ?_
  refine ⟨by kernel_rfl, ?_⟩
  refine nx (sl 5 rfl (sl 6 rfl (sl 7 rfl (sl 8 rfl sn)))) en ?_
  refine tri_seq ?_
  refine tri_if rfl (fun hc => ?_) (fun hc => ?_)
  · have hsg : sg (l.getD i (cQi k).dflt).2 = 1 := sg_pos (hp i (by omega))
    refine tri_skip ?_
    refine nx (sl 5 rfl (sl 6 rfl (sl 7 rfl sn))) en ?_
    refine tri_seq ?_
    refine tri_block ?_
    refine tri_seq ?_
    refine tri_reg mixed hcx ?_ _ _
    refine ix rfl rfl slQs ⟨rfl, by omega⟩ ?_
    refine lf rfl tyQ ?_
    refine nw 312 zeQ ?_
    refine sts (zz := [T.Zi (l.getD i (cQi k).dflt).1 k, T.Zi (l.getD i (cQi k).dflt).2 k]) rfl rfl rfl tyQ rfl ?_
    refine ⟨by kernel_rfl, ?_⟩
    refine nx (sl 4 rfl (sl 5 rfl (sl 6 rfl (sl 7 rfl sn)))) (el 312 rfl en) ?_
    refine tri_seq ?_
    refine tri_reg mixed hcx ?_ _ _
    refine fa rfl fDen 2 ?_
    refine ld rfl rfl tyZ rfl ?_
    refine ca rfl (h := zi_Sign (by omega)) (hn := ?_)
    refine cle rfl rfl (decide_eq_false (by omega)) ?_
    refine ⟨by kernel_rfl, ?_⟩
    refine nx (sl 5 rfl (sl 6 rfl (sl 7 rfl (sl 14 rfl sn)))) (el 312 rfl en) ?_
    refine tri_false rfl rfl ?_
    refine tri_skip ?_
    refine pn_blk ?_
    refine nx (sl 5 rfl (sl 6 rfl (sl 7 rfl sn))) (el 312 rfl en) ?_
    refine tri_reg mixed hcx ?_ _ _
    refine ad (((i + 1 : Nat) : Int)) rfl rfl rfl (by omega) ?_
    refine mv rfl ?_
    refine ⟨by kernel_rfl, ?_⟩
    exact pn_back (i + 1) (by first | omega | (dsimp only; omega)) (by omega) (sl 5 rfl (sl 6 rfl (sl 7 rfl sn))) en
  · refine tri_exit ?_
    repeat (first | refine pn_then ?_ | refine pn_oth (by decide) ?_)
    refine pn_ex ?_
    refine nx sn en ?_
    refine tri_seq ?_
    refine tri_reg mixed hcx ?_ _ _
    refine asg rfl ?_
    refine ⟨by kernel_rfl, ?_⟩
    refine nx (sl 2 rfl sn) en ?_
    refine tri_ret ?_
    repeat (first | refine pn_thenr ?_ | refine pn_blkr ?_)
    exact ret1 hcx rfl (rv_tmp rfl) (.refl _) en

section
variable {P : Program} {x : Code} {Q : Exit → Act → World → Prop} {ctx : Ctx} {n : Nat} {g : List (Nat × T)} {E : List (Nat × Option Ent)}
end
end Go.Proofs.YtffnfbhhjjbjbaaGreat.V
/- Sums, differences, products, quotients of any fractions. -/
set_option linter.unusedVariables false
set_option linter.unusedSimpArgs false
set_option maxRecDepth 100000
namespace Go.Proofs.YtffnfbhhjjbjbaaGreat.V
open Go.RowKit Mt Nml
theorem rat_subG {a b c d : Int} (hb : b ≠ 0) (hd : d ≠ 0) : ((a * d - c * b : Int) : Rat) / ((b * d : Int) : Rat) = (a : Rat) / (b : Rat) - (c : Rat) / (d : Rat) := by
  rw [Rat.sub_eq_add_neg, ← rat_negG, ← rat_addG hb hd, Int.sub_eq_add_neg, Int.neg_mul]
theorem rat_twoG {a b c d : Int} {s : Rat} {k l m : Nat} {f : FuncId} {Cs : List T} (hb : 0 < b) (hd : 0 < d) (hf : Fn Tryz.prog f Cs [] [] [] (T.Q s m)) (hen : Enters Tryz.prog f) (hns : Cs.flatMap (·.ns) = []) (hk : k ≤ 17179869184) (hl : l ≤ 17179869184) : Fn Tryz.prog 180 [T.Qi a b k, T.Qi c d l, T.clo f Cs hns] [] [] [] (T.tup [T.Q s m, T.c (.int .i64 0)]) := by
  refine fn_of Tryz.func180 rfl (by show 3 ≤ 19; decide) fun cx hcx => ?_
  refine tri_sub (sl 0 rfl (sl 1 rfl (sl 2 rfl sn))) en ?_
  refine tri_seq ?_
  refine tri_reg mixed hcx ?_ _ _
  refine bxs 10 rfl ?_
  refine bxs 11 rfl ?_
  refine nw 12 zeQ ?_
  refine asg rfl ?_
  refine ⟨by kernel_rfl, ?_⟩
  refine nx (sl 2 rfl (sl 3 rfl (sl 4 rfl (sl 6 rfl sn)))) (el 10 rfl (el 11 rfl (el 12 rfl en))) ?_
  refine tri_seq ?_
  refine tri_seq ?_
  refine tri_reg mixed hcx ?_ _ _
  refine ld rfl rfl tyQ rfl ?_
  refine ld rfl rfl tyQ rfl ?_
  refine bs (c := cQi (k + l)) (xs := [(a, b), (c, d)]) slQs rfl ⟨qi_mono (by omega), qi_mono (by omega), trivial⟩ ?_
  refine ca rfl (h := rat_validG (by omega) (by simp) (two_pos hb hd)) (hn := ?_)
  refine asg rfl ?_
  refine ⟨by kernel_rfl, ?_⟩
  refine nx (sl 2 rfl (sl 6 rfl (sl 8 rfl sn))) (el 10 rfl (el 11 rfl (el 12 rfl en))) ?_
  refine tri_seq ?_
  refine tri_reg mixed hcx ?_ _ _
  refine mv rfl ?_
  refine cne rfl rfl (decide_eq_false (by omega)) ?_
  refine ⟨by kernel_rfl, ?_⟩
  refine nx (sl 2 rfl (sl 6 rfl (sl 8 rfl (sl 14 rfl sn)))) (el 10 rfl (el 11 rfl (el 12 rfl en))) ?_
  refine tri_false rfl rfl ?_
  refine tri_skip ?_
  refine nx (sl 2 rfl (sl 6 rfl sn)) (el 10 rfl (el 11 rfl (el 12 rfl en))) ?_
  refine tri_seq ?_
  refine tri_as 2 (Z := T.fn f Cs) rfl clo_ge ?_
  refine tri_reg mixed hcx ?_ _ _
  refine mv rfl ?_
  refine cf rfl rfl hf hen ?_
  refine st rfl rfl rfl tyQ rfl ?_
  refine asg rfl ?_
  refine ⟨by kernel_rfl, ?_⟩
  refine nx (sl 6 rfl (sl 7 rfl sn)) (el 10 rfl (el 11 rfl (el 12 rfl en))) ?_
  refine tri_ret ?_
  repeat (first | refine pn_thenr ?_ | refine pn_blkr ?_)
  exact ret2 hcx rfl (rv_cell (c' := cx) (n := 0) rfl rfl tyQ rfl) (rv_tmp rfl) (.refl _) en

theorem rat_Add1G {a b c d : Int} {k l : Nat} (hb : 0 < b) (hd : 0 < d) (hk : k ≤ 17179869184) (hl : l ≤ 17179869184) : Fn Tryz.prog 201 [T.fp (T.Qi a b k), T.fp (T.Qi c d l)] [] [] [] (T.Q ((a : Rat) / (b : Rat) + ((c : Rat) / (d : Rat))) (3 * (k + l) + 1)) := by
  refine fn_of Tryz.func201 rfl (by show 2 ≤ 20; decide) fun cx hcx => ?_
  refine tri_sub (sl 0 rfl (sl 1 rfl sn)) en ?_
  have hb0 : b ≠ 0 := by omega
  have hd0 : d ≠ 0 := by omega
  have hbd0 : b * d ≠ 0 := Int.mul_ne_zero hb0 hd0
  refine tri_seq ?_
  refine tri_reg mixed hcx ?_ _ _
  refine nw 10 zeQ ?_
  refine ⟨by kernel_rfl, ?_⟩
  refine nx (sl 0 rfl (sl 1 rfl (sl 2 rfl sn))) (el 10 rfl en) ?_
  refine tri_seq ?_
  refine tri_reg mixed hcx ?_ _ _
  refine ff rfl fNum rfl ?_
  refine lf rfl tyZ ?_
  refine ff rfl fDen rfl ?_
  refine lf rfl tyZ ?_
  refine ca rfl (h := zi_Mul (by omega) (by omega)) (hn := ?_)
  refine ff rfl fNum rfl ?_
  refine lf rfl tyZ ?_
  refine ff rfl fDen rfl ?_
  refine lf rfl tyZ ?_
  refine ca rfl (h := zi_Mul (by omega) (by omega)) (hn := ?_)
  refine ca rfl (h := zi_Add (by omega) (by omega)) (hn := ?_)
  refine ff rfl fDen rfl ?_
  refine lf rfl tyZ ?_
  refine ff rfl fDen rfl ?_
  refine lf rfl tyZ ?_
  refine ca rfl (h := zi_Mul (by omega) (by omega)) (hn := ?_)
  refine ca rfl (h := rat_mk (by assumption) (by omega) (by omega)) (hn := ?_)
  refine st rfl rfl rfl tyQ rfl ?_
  refine ⟨by kernel_rfl, ?_⟩
  refine nx (sl 2 rfl sn) (el 10 rfl en) ?_
  refine tri_ret ?_
  repeat (first | refine pn_thenr ?_ | refine pn_blkr ?_)
  exact ret1 hcx rfl (rv_cell (c' := cx) (n := 0) rfl rfl tyQ rfl) (q_eq (rat_addG hb0 hd0) (by omega)) en

theorem rat_AddG {a b c d : Int} {k l : Nat} (hb : 0 < b) (hd : 0 < d) (hk : k ≤ 17179869184) (hl : l ≤ 17179869184) : Fn Tryz.prog 161 [T.Qi a b k, T.Qi c d l] [] [] [] (T.tup [T.Q ((a : Rat) / (b : Rat) + ((c : Rat) / (d : Rat))) (3 * (k + l) + 1), T.c (.int .i64 0)]) := by
  refine fn_of Tryz.func161 rfl (by show 2 ≤ 12; decide) fun cx hcx => ?_
  refine tri_sub (sl 0 rfl (sl 1 rfl sn)) en ?_
  have hfn := rat_Add1G (a := a) (b := b) (c := c) (d := d) hb hd hk hl
  have hclo := clo_le (f := 201) (Cs := [T.fp (T.Qi a b k), T.fp (T.Qi c d l)]) (h := rfl)
  refine tri_seq ?_
  refine tri_reg mixed hcx ?_ _ _
  refine bxs 10 rfl ?_
  refine bxs 11 rfl ?_
  refine nw 12 zeQ ?_
  refine asg rfl ?_
  refine ⟨by kernel_rfl, ?_⟩
  refine nx (sl 2 rfl (sl 3 rfl (sl 4 rfl sn))) (el 10 rfl (el 11 rfl (el 12 rfl en))) ?_
  refine tri_seq ?_
  refine tri_fzb 2 10 rfl rfl (by show (4 : Nat) ≠ 0; decide) ?_
  refine tri_fzb 3 11 rfl rfl (by show (4 : Nat) ≠ 0; decide) ?_
  refine tri_sub (sl 2 rfl (sl 3 rfl (sl 4 rfl sn))) (el 12 rfl en) ?_
  refine tri_reg mixed hcx ?_ _ _
  refine lf rfl tyQ ?_
  refine lf rfl tyQ ?_
  refine mf rfl ?_
  refine ca rfl (h := rat_twoG hb hd hfn (by intro a w; kernel_rfl) rfl (by omega) (by omega)) (hn := ?_)
  refine ex rfl rfl ?_
  refine ex rfl rfl ?_
  refine st rfl rfl rfl tyQ rfl ?_
  refine asg rfl ?_
  refine ⟨by kernel_rfl, ?_⟩
  refine nx (sl 4 rfl (sl 5 rfl sn)) (el 12 rfl en) ?_
  refine tri_ret ?_
  repeat (first | refine pn_thenr ?_ | refine pn_blkr ?_)
  exact ret2 hcx rfl (rv_cell (c' := cx) (n := 0) rfl rfl tyQ rfl) (rv_tmp rfl) (.refl _) en

theorem rat_Sub1G {a b c d : Int} {k l : Nat} (hb : 0 < b) (hd : 0 < d) (hk : k ≤ 17179869184) (hl : l ≤ 17179869184) : Fn Tryz.prog 181 [T.fp (T.Qi a b k), T.fp (T.Qi c d l)] [] [] [] (T.Q ((a : Rat) / (b : Rat) - ((c : Rat) / (d : Rat))) (3 * (k + l) + 1)) := by
  refine fn_of Tryz.func181 rfl (by show 2 ≤ 20; decide) fun cx hcx => ?_
  refine tri_sub (sl 0 rfl (sl 1 rfl sn)) en ?_
  have hb0 : b ≠ 0 := by omega
  have hd0 : d ≠ 0 := by omega
  have hbd0 : b * d ≠ 0 := Int.mul_ne_zero hb0 hd0
  refine tri_seq ?_
  refine tri_reg mixed hcx ?_ _ _
  refine nw 10 zeQ ?_
  refine ⟨by kernel_rfl, ?_⟩
  refine nx (sl 0 rfl (sl 1 rfl (sl 2 rfl sn))) (el 10 rfl en) ?_
  refine tri_seq ?_
  refine tri_reg mixed hcx ?_ _ _
  refine ff rfl fNum rfl ?_
  refine lf rfl tyZ ?_
  refine ff rfl fDen rfl ?_
  refine lf rfl tyZ ?_
  refine ca rfl (h := zi_Mul (by omega) (by omega)) (hn := ?_)
  refine ff rfl fNum rfl ?_
  refine lf rfl tyZ ?_
  refine ff rfl fDen rfl ?_
  refine lf rfl tyZ ?_
  refine ca rfl (h := zi_Mul (by omega) (by omega)) (hn := ?_)
  refine ca rfl (h := zi_Sub (by omega) (by omega)) (hn := ?_)
  refine ff rfl fDen rfl ?_
  refine lf rfl tyZ ?_
  refine ff rfl fDen rfl ?_
  refine lf rfl tyZ ?_
  refine ca rfl (h := zi_Mul (by omega) (by omega)) (hn := ?_)
  refine ca rfl (h := rat_mk (by assumption) (by omega) (by omega)) (hn := ?_)
  refine st rfl rfl rfl tyQ rfl ?_
  refine ⟨by kernel_rfl, ?_⟩
  refine nx (sl 2 rfl sn) (el 10 rfl en) ?_
  refine tri_ret ?_
  repeat (first | refine pn_thenr ?_ | refine pn_blkr ?_)
  exact ret1 hcx rfl (rv_cell (c' := cx) (n := 0) rfl rfl tyQ rfl) (q_eq (rat_subG hb0 hd0) (by omega)) en

theorem rat_SubG {a b c d : Int} {k l : Nat} (hb : 0 < b) (hd : 0 < d) (hk : k ≤ 17179869184) (hl : l ≤ 17179869184) : Fn Tryz.prog 132 [T.Qi a b k, T.Qi c d l] [] [] [] (T.tup [T.Q ((a : Rat) / (b : Rat) - ((c : Rat) / (d : Rat))) (3 * (k + l) + 1), T.c (.int .i64 0)]) := by
  refine fn_of Tryz.func132 rfl (by show 2 ≤ 12; decide) fun cx hcx => ?_
  refine tri_sub (sl 0 rfl (sl 1 rfl sn)) en ?_
  have hfn := rat_Sub1G (a := a) (b := b) (c := c) (d := d) hb hd hk hl
  have hclo := clo_le (f := 181) (Cs := [T.fp (T.Qi a b k), T.fp (T.Qi c d l)]) (h := rfl)
  refine tri_seq ?_
  refine tri_reg mixed hcx ?_ _ _
  refine bxs 10 rfl ?_
  refine bxs 11 rfl ?_
  refine nw 12 zeQ ?_
  refine asg rfl ?_
  refine ⟨by kernel_rfl, ?_⟩
  refine nx (sl 2 rfl (sl 3 rfl (sl 4 rfl sn))) (el 10 rfl (el 11 rfl (el 12 rfl en))) ?_
  refine tri_seq ?_
  refine tri_fzb 2 10 rfl rfl (by show (4 : Nat) ≠ 0; decide) ?_
  refine tri_fzb 3 11 rfl rfl (by show (4 : Nat) ≠ 0; decide) ?_
  refine tri_sub (sl 2 rfl (sl 3 rfl (sl 4 rfl sn))) (el 12 rfl en) ?_
  refine tri_reg mixed hcx ?_ _ _
  refine lf rfl tyQ ?_
  refine lf rfl tyQ ?_
  refine mf rfl ?_
  refine ca rfl (h := rat_twoG hb hd hfn (by intro a w; kernel_rfl) rfl (by omega) (by omega)) (hn := ?_)
  refine ex rfl rfl ?_
  refine ex rfl rfl ?_
  refine st rfl rfl rfl tyQ rfl ?_
  refine asg rfl ?_
  refine ⟨by kernel_rfl, ?_⟩
  refine nx (sl 4 rfl (sl 5 rfl sn)) (el 12 rfl en) ?_
  refine tri_ret ?_
  repeat (first | refine pn_thenr ?_ | refine pn_blkr ?_)
  exact ret2 hcx rfl (rv_cell (c' := cx) (n := 0) rfl rfl tyQ rfl) (rv_tmp rfl) (.refl _) en

theorem rat_Mul1G {a b c d : Int} {k l : Nat} (hb : 0 < b) (hd : 0 < d) (hk : k ≤ 17179869184) (hl : l ≤ 17179869184) : Fn Tryz.prog 203 [T.fp (T.Qi a b k), T.fp (T.Qi c d l)] [] [] [] (T.Q ((a : Rat) / (b : Rat) * ((c : Rat) / (d : Rat))) (2 * (k + l))) := by
  refine fn_of Tryz.func203 rfl (by show 2 ≤ 14; decide) fun cx hcx => ?_
  refine tri_sub (sl 0 rfl (sl 1 rfl sn)) en ?_
  have hb0 : b ≠ 0 := by omega
  have hd0 : d ≠ 0 := by omega
  have hbd0 : b * d ≠ 0 := Int.mul_ne_zero hb0 hd0
  refine tri_seq ?_
  refine tri_reg mixed hcx ?_ _ _
  refine nw 10 zeQ ?_
  refine ⟨by kernel_rfl, ?_⟩
  refine nx (sl 0 rfl (sl 1 rfl (sl 2 rfl sn))) (el 10 rfl en) ?_
  refine tri_seq ?_
  refine tri_reg mixed hcx ?_ _ _
  refine ff rfl fNum rfl ?_
  refine lf rfl tyZ ?_
  refine ff rfl fNum rfl ?_
  refine lf rfl tyZ ?_
  refine ca rfl (h := zi_Mul (by omega) (by omega)) (hn := ?_)
  refine ff rfl fDen rfl ?_
  refine lf rfl tyZ ?_
  refine ff rfl fDen rfl ?_
  refine lf rfl tyZ ?_
  refine ca rfl (h := zi_Mul (by omega) (by omega)) (hn := ?_)
  refine ca rfl (h := rat_mk (by assumption) (by omega) (by omega)) (hn := ?_)
  refine st rfl rfl rfl tyQ rfl ?_
  refine ⟨by kernel_rfl, ?_⟩
  refine nx (sl 2 rfl sn) (el 10 rfl en) ?_
  refine tri_ret ?_
  repeat (first | refine pn_thenr ?_ | refine pn_blkr ?_)
  exact ret1 hcx rfl (rv_cell (c' := cx) (n := 0) rfl rfl tyQ rfl) (q_eq (rat_mulG _ _ _ _) (by omega)) en

theorem rat_MulG {a b c d : Int} {k l : Nat} (hb : 0 < b) (hd : 0 < d) (hk : k ≤ 17179869184) (hl : l ≤ 17179869184) : Fn Tryz.prog 166 [T.Qi a b k, T.Qi c d l] [] [] [] (T.tup [T.Q ((a : Rat) / (b : Rat) * ((c : Rat) / (d : Rat))) (2 * (k + l)), T.c (.int .i64 0)]) := by
  refine fn_of Tryz.func166 rfl (by show 2 ≤ 12; decide) fun cx hcx => ?_
  refine tri_sub (sl 0 rfl (sl 1 rfl sn)) en ?_
  have hfn := rat_Mul1G (a := a) (b := b) (c := c) (d := d) hb hd hk hl
  have hclo := clo_le (f := 203) (Cs := [T.fp (T.Qi a b k), T.fp (T.Qi c d l)]) (h := rfl)
  refine tri_seq ?_
  refine tri_reg mixed hcx ?_ _ _
  refine bxs 10 rfl ?_
  refine bxs 11 rfl ?_
  refine nw 12 zeQ ?_
  refine asg rfl ?_
  refine ⟨by kernel_rfl, ?_⟩
  refine nx (sl 2 rfl (sl 3 rfl (sl 4 rfl sn))) (el 10 rfl (el 11 rfl (el 12 rfl en))) ?_
  refine tri_seq ?_
  refine tri_fzb 2 10 rfl rfl (by show (4 : Nat) ≠ 0; decide) ?_
  refine tri_fzb 3 11 rfl rfl (by show (4 : Nat) ≠ 0; decide) ?_
  refine tri_sub (sl 2 rfl (sl 3 rfl (sl 4 rfl sn))) (el 12 rfl en) ?_
  refine tri_reg mixed hcx ?_ _ _
  refine lf rfl tyQ ?_
  refine lf rfl tyQ ?_
  refine mf rfl ?_
  refine ca rfl (h := rat_twoG hb hd hfn (by intro a w; kernel_rfl) rfl (by omega) (by omega)) (hn := ?_)
  refine ex rfl rfl ?_
  refine ex rfl rfl ?_
  refine st rfl rfl rfl tyQ rfl ?_
  refine asg rfl ?_
  refine ⟨by kernel_rfl, ?_⟩
  refine nx (sl 4 rfl (sl 5 rfl sn)) (el 12 rfl en) ?_
  refine tri_ret ?_
  repeat (first | refine pn_thenr ?_ | refine pn_blkr ?_)
  exact ret2 hcx rfl (rv_cell (c' := cx) (n := 0) rfl rfl tyQ rfl) (rv_tmp rfl) (.refl _) en

end Go.Proofs.YtffnfbhhjjbjbaaGreat.V
/- A point along a row. -/
set_option linter.unusedVariables false
set_option linter.unusedSimpArgs false
set_option maxRecDepth 100000
namespace Go.Proofs.YtffnfbhhjjbjbaaGreat.V
open Go.RowKit Mt Nml
theorem den_p' (q : Rat) : 0 < ((q.den : Int)) := Int.natCast_pos.2 q.den_pos

end Go.Proofs.YtffnfbhhjjbjbaaGreat.V
/- Fractions by what they are worth. -/
set_option linter.unusedVariables false
set_option linter.unusedSimpArgs false
set_option maxRecDepth 100000
namespace Go.Proofs.YtffnfbhhjjbjbaaGreat.V
open Go.RowKit Mt Nml
/-- A fraction by what it is worth, however told. -/
def T.V (q : Rat) (k : Nat) : T := T.ex 4 true (fun p : Int × Int => 0 < p.2 ∧ (p.1 : Rat) / (p.2 : Rat) = q ∧ zl p.1 ≤ k ∧ zl p.2 ≤ k) (fun p => T.Qi p.1 p.2 k) (fun _ => ⟨rfl, rfl, rfl⟩)
theorem zi_zl {z : Int} {k : Nat} {β : Env} {u : World} {v : Value} (h : (T.Zi z k).rep β u v) : zl z ≤ k := by
  obtain ⟨i, ⟨k1, k2, k3⟩, _⟩ := h
  obtain ⟨M, hM⟩ := Int.eq_ofNat_of_zero_le (val_nonneg k1)
  rw [k2, hM]
  exact z_bd (s := i.1) k1 hM k3
theorem qi_v {a b : Int} {q : Rat} {k k' : Nat} (hb : 0 < b) (e : (a : Rat) / (b : Rat) = q) (hk : k ≤ k') : (T.Qi a b k).le (T.V q k') := fun β u v h => by
  have h2 := h
  obtain ⟨cs, e1, v1, r1, z1, h1, e2, v2, r2, z2, h3, _⟩ := h
  exact ⟨(a, b), ⟨hb, e, Nat.le_trans (zi_zl h1) hk, Nat.le_trans (zi_zl h3) hk⟩, qi_mono hk _ _ _ h2⟩
theorem q_v (q : Rat) {k k' : Nat} (hk : k ≤ k') : (T.Q q k).le (T.V q k') := (q_qi q hk).trans (qi_v (den_p' q) (rat_nd q) (Nat.le_refl _))
theorem q_v' (q : Rat) (k : Nat) : (T.Q q k).le (T.V q k) := q_v q (Nat.le_refl _)
theorem qi_v' {a b : Int} {k : Nat} (hb : 0 < b) : (T.Qi a b k).le (T.V ((a : Rat) / (b : Rat)) k) := qi_v hb rfl (Nat.le_refl _)
theorem cqi_v {p : Int × Int} {k : Nat} (hb : 0 < p.2) : ((cQi k).X p).le (T.V ((p.1 : Rat) / (p.2 : Rat)) k) := qi_v hb rfl (Nat.le_refl _)
theorem fn_v {P : Program} {f : FuncId} {q : Rat} {k : Nat} (As : List T) {Bs : List T} {Ei Eo : List (Nat × Ent)} {N : List Nat} {R : T} (h : ∀ p : Int × Int, 0 < p.2 → (p.1 : Rat) / (p.2 : Rat) = q → zl p.1 ≤ k → zl p.2 ≤ k → Fn P f (As ++ T.Qi p.1 p.2 k :: Bs) Ei Eo N R) : Fn P f (As ++ T.V q k :: Bs) Ei Eo N R := fn_ex fun p ⟨h1, h2, h3, h4⟩ => h p h1 h2 h3 h4
theorem QB.addv {a b c d : Int} {x y : Rat} {k l : Nat} (hb : 0 < b) (hd : 0 < d) (e : (a : Rat) / (b : Rat) = x) (e2 : (c : Rat) / (d : Rat) = y) (h1 : zl a ≤ k) (h2 : zl b ≤ k) (h3 : zl c ≤ l) (h4 : zl d ≤ l) : QB (x + y) (k + l + 1) := by
  rw [← e, ← e2, ← rat_addG (by omega) (by omega)]
  have h5 := zl_mul h1 h4
  have h6 := zl_mul h3 h2
  have := qb_div (zl_add_max h5 (by rw [Nat.add_comm]; exact h6)) (zl_mul h2 h4) (Int.mul_ne_zero (by omega) (by omega))
  exact QB.mono this (by omega)
theorem QB.subv {a b c d : Int} {x y : Rat} {k l : Nat} (hb : 0 < b) (hd : 0 < d) (e : (a : Rat) / (b : Rat) = x) (e2 : (c : Rat) / (d : Rat) = y) (h1 : zl a ≤ k) (h2 : zl b ≤ k) (h3 : zl c ≤ l) (h4 : zl d ≤ l) : QB (x - y) (k + l + 1) := by
  rw [← e, ← e2, ← rat_subG (by omega) (by omega)]
  have h5 := zl_mul h1 h4
  have h6 := zl_mul h3 h2
  have := qb_div (zl_sub_max h5 (by rw [Nat.add_comm]; exact h6)) (zl_mul h2 h4) (Int.mul_ne_zero (by omega) (by omega))
  exact QB.mono this (by omega)
theorem QB.mulv {a b c d : Int} {x y : Rat} {k l : Nat} (hb : 0 < b) (hd : 0 < d) (e : (a : Rat) / (b : Rat) = x) (e2 : (c : Rat) / (d : Rat) = y) (h1 : zl a ≤ k) (h2 : zl b ≤ k) (h3 : zl c ≤ l) (h4 : zl d ≤ l) : QB (x * y) (k + l) := by
  rw [← e, ← e2, ← rat_mulG]
  have := qb_div (zl_mul h1 h3) (zl_mul h2 h4) (Int.mul_ne_zero (show b ≠ 0 by omega) (show d ≠ 0 by omega))
  exact QB.mono this (by omega)
theorem rv_Add {x y : Rat} {k l : Nat} (hk : k ≤ 17179869184) (hl : l ≤ 17179869184) : Fn Tryz.prog 161 [T.V x k, T.V y l] [] [] [] (T.tup [T.Q (x + y) (k + l + 1), T.c (.int .i64 0)]) := fn_v [] fun p p1 p2 p3 p4 => fn_v [T.Qi p.1 p.2 k] (Bs := []) fun q q1 q2 q3 q4 => fn_out (rat_AddG p1 q1 hk hl) (tup_le ⟨q_qb (by rw [p2, q2]) (QB.addv p1 q1 p2 q2 p3 p4 q3 q4), .refl _, trivial⟩)

theorem rv_Sub {x y : Rat} {k l : Nat} (hk : k ≤ 17179869184) (hl : l ≤ 17179869184) : Fn Tryz.prog 132 [T.V x k, T.V y l] [] [] [] (T.tup [T.Q (x - y) (k + l + 1), T.c (.int .i64 0)]) := fn_v [] fun p p1 p2 p3 p4 => fn_v [T.Qi p.1 p.2 k] (Bs := []) fun q q1 q2 q3 q4 => fn_out (rat_SubG p1 q1 hk hl) (tup_le ⟨q_qb (by rw [p2, q2]) (QB.subv p1 q1 p2 q2 p3 p4 q3 q4), .refl _, trivial⟩)

theorem rv_Mul {x y : Rat} {k l : Nat} (hk : k ≤ 17179869184) (hl : l ≤ 17179869184) : Fn Tryz.prog 166 [T.V x k, T.V y l] [] [] [] (T.tup [T.Q (x * y) (k + l), T.c (.int .i64 0)]) := fn_v [] fun p p1 p2 p3 p4 => fn_v [T.Qi p.1 p.2 k] (Bs := []) fun q q1 q2 q3 q4 => fn_out (rat_MulG p1 q1 hk hl) (tup_le ⟨q_qb (by rw [p2, q2]) (QB.mulv p1 q1 p2 q2 p3 p4 q3 q4), .refl _, trivial⟩)

section
variable {P : Program} {ops : Array Oper} {fin : List OpS → List (Nat × T) → List (Nat × Option Ent) → Prop} {r : List Oper} {H : List OpS} {g : List (Nat × T)} {E : List (Nat × Option Ent)} {o : Oper}
variable {t : Option Nat} {ty : TypeId} {ps : String} {af : Array Edge} {gd : Option (Nat × Bool)} {x y : Operand} {X Y : T} {e off m : Nat} {b : Bool} {l l' : List T} {et : TypeId}
variable {α : Type} {c : Cod α} {xs ys : List α}
/-- A call; fractions are told by what they are worth. -/
theorem cb {f : FuncId} {zs : Array Operand} {tys : Array TypeId} {As Bs : List T} (hA : envs g zs.toList = some As)
    (hl : LeL As Bs := by repeat (first | exact trivial | refine ⟨?_, ?_⟩ | exact q_v' _ _ | exact T.le.refl _ | exact qi_v' (by assumption) | exact cqi_v (by assumption) | exact IsZ.le | exact IsL2.le | exact IsL.le | exact q_le _ _ | assumption))
    (h : Fn P f Bs [] [] [] X) (hn : J P ops fin r (OpS.p X :: H) (putg t X g) E) (hen : Enters P f := by intro a w; kernel_rfl)
    (hg : GuardIs ops g ⟨t, .call ⟨.value (.func f), zs, tys⟩, ty, ps, af, gd⟩ true := by exact gd0) : J P ops fin (⟨t, .call ⟨.value (.func f), zs, tys⟩, ty, ps, af, gd⟩ :: r) H g E :=
  cl hA (fn_le h hl) hn hen hg
/-- A load through a pointer, told otherwise. -/
theorem lfx {ty' : TypeId} (hX : envl g x = some (T.fp Y)) (hT : Ty P ty' b m) (hle : Y.le X) (hn : J P ops fin r (OpS.p X :: H) (putg t X g) E) (hm : Y.sz = m ∧ Y.ag = b := by exact ⟨rfl, rfl⟩) (h1 : (b || m == 1) = true := by rfl) (hg : GuardIs ops g ⟨t, .load ty' x, ty, ps, af, gd⟩ true := by exact gd0) : J P ops fin (⟨t, .load ty' x, ty, ps, af, gd⟩ :: r) H g E :=
  j_val hg (ok_pure fun ρ β u w F hs he hH => by
    obtain ⟨ad, v, h2, h0, h3, h4⟩ := he x (by simp [Op.operands]) _ hX
    obtain ⟨hf, hv⟩ := Y.shp h3 h0
    have hlen : v.cells.toList.length = m := by rw [← hm.1]; exact hf.1
    have := run_loadAt (P := P) (w := w) (ad := ad) (vs := v.cells.toList) (by rw [hlen]; exact hT) (fun j y hy => hs _ _ (h4 j y hy)) (by rw [hlen]; exact ty_one hT h1)
    refine ⟨v, ?_, hle _ _ _ h3⟩
    rw [hm.2] at hv
    rw [← hv] at this
    simp only [execOp, h2, Instr.loadAt, Instr.sureAddr, Sem.run_bind, Result.andThen_ok, Sem.run_pure, this]) hn
end
theorem box_q {et : TypeId} {q q' : Rat} {k k' : Nat} (h : (T.Q q k).le (T.Q q' k')) : (Ent.box et [T.Q q k]).le (Ent.box et [T.Q q' k']) := box_pack1 h
def nd (q : Rat) : Int × Int := (q.num, (q.den : Int))
end Go.Proofs.YtffnfbhhjjbjbaaGreat.V
/- A logic of calls: pointers that are none, and those that are not. -/
set_option linter.unusedVariables false
set_option linter.unusedSimpArgs false
namespace Go.Proofs.YtffnfbhhjjbjbaaGreat.V
open Go.RowKit Mt Nml
section
variable {P : Program} {ops : Array Oper} {fin : List OpS → List (Nat × T) → List (Nat × Option Ent) → Prop} {r : List Oper} {H : List OpS} {g : List (Nat × T)} {E : List (Nat × Option Ent)} {o : Oper}
variable {t : Option Nat} {ty : TypeId} {ps : String} {af : Array Edge} {gd : Option (Nat × Bool)} {x y : Operand} {X Y : T} {e off m : Nat} {b : Bool} {l l' : List T} {et : TypeId}
/-- A pointer that is not none. -/
class NN (X : T) : Prop where nn : ∀ {β u v}, X.rep β u v → ∃ a, v = .pointer (some a)
instance (X : T) : NN (T.fp X) := ⟨fun ⟨a, _, h, _⟩ => ⟨a, h⟩⟩
instance (e off : Nat) : NN (T.p e off) := ⟨fun ⟨b, _, h⟩ => ⟨_, h⟩⟩
theorem nk [hn' : NN X] (hX : envl g x = some X) (hn : J P ops fin r (OpS.p X :: H) (putg t X g) E) (hg : GuardIs ops g ⟨t, .nilCheck x, ty, ps, af, gd⟩ true := by exact gd0) : J P ops fin (⟨t, .nilCheck x, ty, ps, af, gd⟩ :: r) H g E :=
  j_val hg (ok_pure fun ρ β u w F hs he hH => by
    have h1 := he x (by simp [Op.operands]) _ hX
    obtain ⟨a, h2⟩ := hn'.nn h1
    exact ⟨ρ x, by simp [execOp, h2], h1⟩) hn
theorem run_eqp {P : Program} {t1 e : TypeId} (hu : P.underlying t1 = some (.pointer e)) (a : Option Addr) (w : World) : (Op.equalIn Op.maxDepth t1 (.pointer a) (.pointer none)).run P w = .ok a.isNone w := by
  unfold Op.maxDepth
  unfold Op.equalIn
  rw [Sem.run_bind, run_underlying hu w]
  cases a <;> rfl
theorem pne {t1 t2 pe : TypeId} [hn' : NN X] (hX : envl g x = some X) (hY : envl g y = some (T.c (.pointer none))) (hu : P.underlying t1 = some (.pointer pe)) (hn : J P ops fin r (OpS.p (T.c (.bool true)) :: H) (putg t (T.c (.bool true)) g) E) (hg : GuardIs ops g ⟨t, .binOp .neq t1 x y t2, ty, ps, af, gd⟩ true := by exact gd0) : J P ops fin (⟨t, .binOp .neq t1 x y t2, ty, ps, af, gd⟩ :: r) H g E :=
  j_val hg (ok_pure fun ρ β u w F hs he hH => by
    obtain ⟨a, h2⟩ := hn'.nn (he x (by simp [Op.operands]) _ hX)
    have h3 : ρ y = .pointer none := he y (by simp [Op.operands]) _ hY
    exact ⟨.bool true, by simp [execOp, h2, h3, eqGuard, binOp, Op.equal, run_eqp hu], rfl⟩) hn
theorem peq {t1 t2 pe : TypeId} [hn' : NN X] (hX : envl g x = some X) (hY : envl g y = some (T.c (.pointer none))) (hu : P.underlying t1 = some (.pointer pe)) (hn : J P ops fin r (OpS.p (T.c (.bool false)) :: H) (putg t (T.c (.bool false)) g) E) (hg : GuardIs ops g ⟨t, .binOp .eql t1 x y t2, ty, ps, af, gd⟩ true := by exact gd0) : J P ops fin (⟨t, .binOp .eql t1 x y t2, ty, ps, af, gd⟩ :: r) H g E :=
  j_val hg (ok_pure fun ρ β u w F hs he hH => by
    obtain ⟨a, h2⟩ := hn'.nn (he x (by simp [Op.operands]) _ hX)
    have h3 : ρ y = .pointer none := he y (by simp [Op.operands]) _ hY
    exact ⟨.bool false, by simp [execOp, h2, h3, eqGuard, binOp, Op.equal, run_eqp hu], rfl⟩) hn
theorem pqn {t1 t2 pe : TypeId} (hX : envl g x = some (T.c (.pointer none))) (hY : envl g y = some (T.c (.pointer none))) (hu : P.underlying t1 = some (.pointer pe)) (hn : J P ops fin r (OpS.p (T.c (.bool true)) :: H) (putg t (T.c (.bool true)) g) E) (hg : GuardIs ops g ⟨t, .binOp .eql t1 x y t2, ty, ps, af, gd⟩ true := by exact gd0) : J P ops fin (⟨t, .binOp .eql t1 x y t2, ty, ps, af, gd⟩ :: r) H g E :=
  j_val hg (ok_pure fun ρ β u w F hs he hH => by
    have h2 : ρ x = .pointer none := he x (by simp [Op.operands]) _ hX
    have h3 : ρ y = .pointer none := he y (by simp [Op.operands]) _ hY
    exact ⟨.bool true, by simp [execOp, h2, h3, eqGuard, binOp, Op.equal, run_eqp hu], rfl⟩) hn
end
theorem fPg : FieldT Tryz.prog 133 0 0 true 2 := FieldT.mk' tyG
theorem fPt : FieldT Tryz.prog 133 1 2 false 1 := FieldT.mk' tyQs
theorem fPn : FieldT Tryz.prog 133 2 3 false 1 := FieldT.mk' tyI
theorem stPb : StructT Tryz.prog 133 [T.c (.slice none 0 0), T.c (.slice none 0 0), T.c (.slice none 0 0), T.c (.int .i64 0)] [(0, 2), (2, 1), (3, 1)] := StructT.mk' (zs := [.slice none 0 0, .slice none 0 0, .slice none 0 0, .int .i64 0])
theorem stFi : StructT Tryz.prog 70 [T.c (.pointer none), T.c (.int .u32 0), T.c (.int .i32 0), T.c (.int .u32 0), T.c (.slice none 0 0), T.c (.slice none 0 0), T.c (.slice none 0 0), T.c (.int .i64 0), T.c (.int .i64 0)] [(0, 1), (1, 3), (4, 1), (5, 1), (6, 1), (7, 1), (8, 1)] := StructT.mk' (zs := [.pointer none, .int .u32 0, .int .i32 0, .int .u32 0, .slice none 0 0, .slice none 0 0, .slice none 0 0, .int .i64 0, .int .i64 0])
theorem uPF : Tryz.prog.underlying 49 = some (.pointer 70) := by kernel_rfl
end Go.Proofs.YtffnfbhhjjbjbaaGreat.V
/- The nearest point's coefficients as plain sums: what stands along each star, and the way back. -/
set_option linter.unusedVariables false
set_option maxRecDepth 100000
namespace Go.Proofs.YtffnfbhhjjbjbaaGreat.V
open Go.RowKit Mt Nml
def muq (D : List Int) (L : List (List Int)) (i j : Nat) : Rat := (((L.getD i []).getD j 0 : Int) : Rat) / ((D.getD (j + 1) 0 : Int) : Rat)
def stq (D : List Int) (i : Nat) : Rat := ((D.getD (i + 1) 0 : Int) : Rat) / ((D.getD i 0 : Int) : Rat)
/-- What is left of a number of the point, after i rows. -/
def lq (b : List (List Int)) (c : List Rat) (d : Rat) (k : Nat) : Nat → Rat
  | 0 => d
  | i + 1 => lq b c d k i - c.getD i 0 * (((b.getD i []).getD k 0 : Int) : Rat)
def hq (b : List (List Int)) (c : List Rat) (ts : List (Int × Int)) (n : Nat) : Nat → Rat
  | 0 => 0
  | k + 1 => hq b c ts n k + lq b c (((ts.getD k (0, 0)).1 : Rat) / ((ts.getD k (0, 0)).2 : Rat)) k n * lq b c (((ts.getD k (0, 0)).1 : Rat) / ((ts.getD k (0, 0)).2 : Rat)) k n
end Go.Proofs.YtffnfbhhjjbjbaaGreat.V
/- Sizes by a common denominator. -/
set_option linter.unusedVariables false
set_option maxRecDepth 100000
namespace Go.Proofs.YtffnfbhhjjbjbaaGreat.V
open Go.RowKit Mt Nml
/-- Times d it is a whole number of at most A limbs. -/
def QC (q : Rat) (d : Int) (A : Nat) : Prop := ∃ n : Int, q * (d : Rat) = (n : Rat) ∧ zl n ≤ A
theorem QC.mono {q : Rat} {d : Int} {A B : Nat} (h : QC q d A) (hA : A ≤ B) : QC q d B := by
  obtain ⟨n, h1, h2⟩ := h
  exact ⟨n, h1, Nat.le_trans h2 hA⟩
theorem QC.add {q r : Rat} {d : Int} {A B : Nat} (h : QC q d A) (k : QC r d B) : QC (q + r) d (max A B + 1) := by
  obtain ⟨n, h1, h2⟩ := h
  obtain ⟨m, k1, k2⟩ := k
  exact ⟨n + m, by rw [Rat.add_mul, h1, k1, Rat.intCast_add], zl_add_max (Nat.le_trans h2 (Nat.le_max_left _ _)) (Nat.le_trans k2 (Nat.le_max_right _ _))⟩
theorem QC.neg {q : Rat} {d : Int} {A : Nat} (h : QC q d A) : QC (-q) d A := by
  obtain ⟨n, h1, h2⟩ := h
  exact ⟨-n, by rw [Rat.neg_mul, h1, Rat.intCast_neg], by unfold zl at h2 ⊢; rw [Int.natAbs_neg]; exact h2⟩
theorem QC.sub {q r : Rat} {d : Int} {A B : Nat} (h : QC q d A) (k : QC r d B) : QC (q - r) d (max A B + 1) := by
  rw [Rat.sub_eq_add_neg]
  exact h.add k.neg
theorem QC.mul {q r : Rat} {d e : Int} {A B : Nat} (h : QC q d A) (k : QC r e B) : QC (q * r) (d * e) (A + B) := by
  obtain ⟨n, h1, h2⟩ := h
  obtain ⟨m, k1, k2⟩ := k
  refine ⟨n * m, ?_, zl_mul h2 k2⟩
  rw [Rat.intCast_mul, Rat.intCast_mul, ← h1, ← k1]
  generalize (d : Rat) = x
  generalize (e : Rat) = y
  grind
theorem QC.up {q : Rat} {d : Int} {A : Nat} (h : QC q d A) (e : Int) : QC q (d * e) (A + zl e) := by
  obtain ⟨n, h1, h2⟩ := h
  refine ⟨n * e, ?_, zl_mul h2 (Nat.le_refl _)⟩
  rw [Rat.intCast_mul, Rat.intCast_mul, ← h1]
  generalize (d : Rat) = x
  generalize (e : Rat) = y
  grind
theorem QC.frac {a b : Int} (hb : b ≠ 0) : QC ((a : Rat) / (b : Rat)) b (zl a) := by
  have hne := rat_ne hb
  refine ⟨a, ?_, Nat.le_refl _⟩
  generalize (b : Rat) = y at hne
  grind
theorem QC.int (a : Int) : QC (a : Rat) 1 (zl a) := ⟨a, by rw [show ((1 : Int) : Rat) = 1 from rfl, Rat.mul_one], Nat.le_refl _⟩
end Go.Proofs.YtffnfbhhjjbjbaaGreat.V
/- The parts along the stars have a common denominator that grows by steps. -/
set_option linter.unusedVariables false
set_option maxRecDepth 100000
namespace Go.Proofs.YtffnfbhhjjbjbaaGreat.V
open Go.RowKit Mt Nml
end Go.Proofs.YtffnfbhhjjbjbaaGreat.V
/- The coefficients have a common denominator that grows by steps. -/
set_option linter.unusedVariables false
set_option maxRecDepth 100000
namespace Go.Proofs.YtffnfbhhjjbjbaaGreat.V
open Go.RowKit Mt Nml
end Go.Proofs.YtffnfbhhjjbjbaaGreat.V
/- The premises of the sizes: what divides the common denominator. -/
set_option linter.unusedVariables false
set_option maxRecDepth 100000
namespace Go.Proofs.YtffnfbhhjjbjbaaGreat.V
open Go.RowKit Mt Nml
end Go.Proofs.YtffnfbhhjjbjbaaGreat.V
/- What is said of rows, but for dependence. -/
set_option linter.unusedVariables false
set_option linter.unusedSimpArgs false
set_option maxRecDepth 100000
namespace Go.Proofs.YtffnfbhhjjbjbaaGreat.V
open Go.RowKit Mt Nml
/-- A truth value, whichever. -/
def T.tb : T := T.ex 1 false (fun _ : Bool => True) (fun s => T.c (.bool s)) (fun _ => ⟨rfl, rfl, rfl⟩)
theorem tb_of (s : Bool) : (T.c (.bool s)).le T.tb := fun β u v h => ⟨s, trivial, h⟩
theorem iv_abs {s : Bool} {xs : List Int} {z : Int} (h : Lim xs) (hz : z = iv s (val xs)) : val xs = ((z.natAbs : Nat) : Int) := by
  have := val_nonneg h
  subst hz
  unfold iv
  split <;> omega
theorem zi_parts {z : Int} {k : Nat} : (T.Zi z k).le (T.st [T.tb, T.L z.natAbs k]) := fun β u v ⟨i, ⟨h1, h2, h3⟩, cs, e, hc⟩ => ⟨cs, e, cells_le (l := [T.c (.bool i.1), T.l cU i.2]) hc ⟨tb_of i.1, l_L h1 (iv_abs h1 h2) h3, trivial⟩ rfl⟩
instance (z : Int) (k : Nat) : Sp (T.Zi z k) [T.tb, T.L z.natAbs k] := ⟨zi_parts⟩
instance (z : Int) (k : Nat) : Sp ((cZi k).X z) [T.tb, T.L z.natAbs k] := ⟨zi_parts⟩
/-- Rows that are too large: q, are the bits asked? -/
def BigB (b : List (List Int)) (q : Bool) : Prop := 12 < b.length ∨ (q = true ∧ 256 < matB b b.length) ∨ ∃ i, i < b.length ∧ 12 < (b.getD i []).length
/-- Rows of unlike lengths. -/
def BadB (b : List (List Int)) : Prop := ∃ i, i < b.length ∧ (b.getD i []).length ≠ (b.getD 0 []).length
/-- What is said of rows, but for dependence. -/
structure ShR (b : List (List Int)) (q : Bool) (r : Int) : Prop where
  big : BigB b q → r = 40
  nil : ¬ BigB b q → b.length = 0 → r = 41
  bad : ¬ BigB b q → b.length ≠ 0 → BadB b → r = 8
  ok : ¬ BigB b q → b.length ≠ 0 → ¬ BadB b → r = 0
theorem ShR.ex (b : List (List Int)) (q : Bool) : ∃ r, ShR b q r := by
  by_cases h1 : BigB b q
  · exact ⟨40, fun _ => rfl, fun h => absurd h1 h, fun h => absurd h1 h, fun h => absurd h1 h⟩
  · by_cases h2 : b.length = 0
    · exact ⟨41, fun h => absurd h h1, fun _ _ => rfl, fun _ h => absurd h2 h, fun _ h => absurd h2 h⟩
    · by_cases h3 : BadB b
      · exact ⟨8, fun h => absurd h h1, fun _ h => absurd h h2, fun _ _ _ => rfl, fun _ _ h => absurd h3 h⟩
      · exact ⟨0, fun h => absurd h h1, fun _ h => absurd h h2, fun _ _ h => absurd h h3, fun _ _ _ => rfl⟩
end Go.Proofs.YtffnfbhhjjbjbaaGreat.V
/- Determinants: the numbers that the data of rows are divided to are whole, and the data say what elimination says. -/
set_option linter.unusedVariables false
namespace Go.Proofs.YtffnfbhhjjbjbaaGreat.V
open Mt Nml
abbrev Rw := Nat → Rat
/-- The sum along a column, row by row. -/
def sm (f : List Rw → Rat) (c : Nat) : List Rw → List Rw → Rat
  | _, [] => 0
  | pre, r :: rest => r c * f (pre ++ rest) - sm f c (pre ++ [r]) rest
/-- The determinant of n rows from column c on. -/
def Dt : Nat → Nat → List Rw → Rat
  | 0, _, _ => 1
  | n + 1, c, l => sm (Dt n (c + 1)) c [] l
def addm (x : Rw) (q : Rat) (y : Rw) : Rw := fun j => x j + q * y j
def LinD (n : Nat) (f : List Rw → Rat) : Prop := ∀ A x y q B, A.length + B.length + 1 = n → f (A ++ addm x q y :: B) = f (A ++ x :: B) + q * f (A ++ y :: B)
def AltD (n : Nat) (f : List Rw → Rat) : Prop := ∀ A x y B, A.length + B.length + 2 = n → f (A ++ x :: y :: B) = -f (A ++ y :: x :: B)
theorem sm_lin_pre {n c : Nat} {f : List Rw → Rat} (hf : LinD n f) {P : List Rw} {x y : Rw} {q : Rat} : ∀ (rest Q : List Rw), P.length + Q.length + rest.length = n → sm f c (P ++ addm x q y :: Q) rest = sm f c (P ++ x :: Q) rest + q * sm f c (P ++ y :: Q) rest
  | [], Q, _ => by show (0 : Rat) = 0 + q * 0; grind
  | r :: rest, Q, h => by
    have e : ∀ z : Rw, sm f c (P ++ z :: Q) (r :: rest) = r c * f (P ++ z :: (Q ++ rest)) - sm f c (P ++ z :: (Q ++ [r])) rest := fun z => by
      show r c * f ((P ++ z :: Q) ++ rest) - sm f c ((P ++ z :: Q) ++ [r]) rest = _
      simp only [List.append_assoc, List.cons_append]
    simp only [List.length_cons] at h
    rw [e, e, e, hf P x y q (Q ++ rest) (by simp only [List.length_append]; omega), sm_lin_pre hf rest (Q ++ [r]) (by simp only [List.length_append, List.length_cons, List.length_nil]; omega)]
    grind
theorem sm_lin {n c : Nat} {f : List Rw → Rat} (hf : LinD n f) {x y : Rw} {q : Rat} {B : List Rw} : ∀ (A pre : List Rw), pre.length + A.length + B.length = n → sm f c pre (A ++ addm x q y :: B) = sm f c pre (A ++ x :: B) + q * sm f c pre (A ++ y :: B)
  | [], pre, h => by
    show (x c + q * y c) * f (pre ++ B) - sm f c (pre ++ [addm x q y]) B = (x c * f (pre ++ B) - sm f c (pre ++ [x]) B) + q * (y c * f (pre ++ B) - sm f c (pre ++ [y]) B)
    rw [sm_lin_pre hf B [] (by simpa using h)]
    grind
  | a :: A, pre, h => by
    simp only [List.length_cons] at h
    have e : ∀ z : Rw, sm f c pre ((a :: A) ++ z :: B) = a c * f ((pre ++ A) ++ z :: B) - sm f c (pre ++ [a]) (A ++ z :: B) := fun z => by
      show a c * f (pre ++ (A ++ z :: B)) - sm f c (pre ++ [a]) (A ++ z :: B) = _
      rw [← List.append_assoc]
    rw [e, e, e, hf (pre ++ A) x y q B (by simp only [List.length_append]; omega), sm_lin hf A (pre ++ [a]) (by simp only [List.length_append, List.length_cons, List.length_nil]; omega)]
    grind
theorem sm_alt_pre {n c : Nat} {f : List Rw → Rat} (hf : AltD n f) {P : List Rw} {x y : Rw} : ∀ (rest Q : List Rw), P.length + Q.length + 1 + rest.length = n → sm f c (P ++ x :: y :: Q) rest = -sm f c (P ++ y :: x :: Q) rest
  | [], Q, _ => by show (0 : Rat) = -0; grind
  | r :: rest, Q, h => by
    have e : ∀ z w : Rw, sm f c (P ++ z :: w :: Q) (r :: rest) = r c * f (P ++ z :: w :: (Q ++ rest)) - sm f c (P ++ z :: w :: (Q ++ [r])) rest := fun z w => by
      show r c * f ((P ++ z :: w :: Q) ++ rest) - sm f c ((P ++ z :: w :: Q) ++ [r]) rest = _
      simp only [List.append_assoc, List.cons_append]
    simp only [List.length_cons] at h
    rw [e, e, hf P x y (Q ++ rest) (by simp only [List.length_append]; omega), sm_alt_pre hf rest (Q ++ [r]) (by simp only [List.length_append, List.length_cons, List.length_nil]; omega)]
    grind
theorem sm_alt {n c : Nat} {f : List Rw → Rat} (hf : AltD n f) {x y : Rw} {B : List Rw} : ∀ (A pre : List Rw), pre.length + A.length + B.length + 1 = n → sm f c pre (A ++ x :: y :: B) = -sm f c pre (A ++ y :: x :: B)
  | [], pre, h => by
    have e : ∀ z w : Rw, sm f c pre (z :: w :: B) = z c * f (pre ++ w :: B) - (w c * f (pre ++ z :: B) - sm f c (pre ++ z :: w :: []) B) := fun z w => by
      show z c * f (pre ++ w :: B) - (w c * f ((pre ++ [z]) ++ B) - sm f c ((pre ++ [z]) ++ [w]) B) = _
      simp only [List.append_assoc, List.cons_append, List.nil_append]
    show sm f c pre (x :: y :: B) = -sm f c pre (y :: x :: B)
    rw [e, e, sm_alt_pre (x := x) (y := y) hf B [] (by simp only [List.length_nil] at h ⊢; omega)]
    grind
  | a :: A, pre, h => by
    simp only [List.length_cons] at h
    have e : ∀ z w : Rw, sm f c pre ((a :: A) ++ z :: w :: B) = a c * f ((pre ++ A) ++ z :: w :: B) - sm f c (pre ++ [a]) (A ++ z :: w :: B) := fun z w => by
      show a c * f (pre ++ (A ++ z :: w :: B)) - sm f c (pre ++ [a]) (A ++ z :: w :: B) = _
      rw [← List.append_assoc]
    rw [e, e, hf (pre ++ A) x y B (by simp only [List.length_append]; omega), sm_alt hf A (pre ++ [a]) (by simp only [List.length_append, List.length_cons, List.length_nil]; omega)]
    grind
theorem dt_lin : ∀ n c, LinD n (Dt n c)
  | 0, c => fun A x y q B h => absurd h (by omega)
  | n + 1, c => fun A x y q B h => sm_lin (dt_lin n (c + 1)) A [] (by simp only [List.length_nil]; omega)
theorem dt_alt : ∀ n c, AltD n (Dt n c)
  | 0, c => fun A x y B h => absurd h (by omega)
  | n + 1, c => fun A x y B h => sm_alt (dt_alt n (c + 1)) A [] (by simp only [List.length_nil]; omega)
theorem dup_zero {n : Nat} {f : List Rw → Rat} (hf : AltD n f) {x : Rw} {C : List Rw} : ∀ (B A : List Rw), A.length + B.length + C.length + 2 = n → f (A ++ x :: (B ++ x :: C)) = 0
  | [], A, h => by
    have := hf A x x C (by simp only [List.length_nil] at h; omega)
    show f (A ++ x :: x :: C) = 0
    grind
  | b :: B, A, h => by
    simp only [List.length_cons] at h
    have h1 := hf A x b (B ++ x :: C) (by simp only [List.length_append, List.length_cons]; omega)
    have h2 := dup_zero hf (x := x) (C := C) B (A ++ [b]) (by simp only [List.length_append, List.length_cons, List.length_nil]; omega)
    rw [List.append_assoc] at h2
    show f (A ++ x :: b :: (B ++ x :: C)) = 0
    rw [h1]
    show -f (A ++ ([b] ++ x :: (B ++ x :: C))) = 0
    rw [h2]
    grind
def eln (c : Nat) (x r : Rw) : Rw := addm r (-(r c / x c)) x
theorem eln_all {n c : Nat} {x : Rw} : ∀ (l A : List Rw), A.length + l.length + 1 = n → Dt n c (x :: (A ++ l)) = Dt n c (x :: (A ++ l.map (eln c x)))
  | [], A, _ => rfl
  | r :: l, A, h => by
    simp only [List.length_cons] at h
    have h1 := dt_lin n c (x :: A) r x (-(r c / x c)) l (by simp only [List.length_cons]; omega)
    have h2 := dup_zero (dt_alt n c) (x := x) (C := l) A [] (by simp only [List.length_nil]; omega)
    have h3 := eln_all (n := n) (c := c) (x := x) l (A ++ [eln c x r]) (by simp only [List.length_append, List.length_cons, List.length_nil]; omega)
    rw [List.append_assoc, List.append_assoc] at h3
    show Dt n c (x :: (A ++ r :: l)) = Dt n c (x :: (A ++ ([eln c x r] ++ l.map (eln c x))))
    rw [← h3]
    show Dt n c ((x :: A) ++ r :: l) = Dt n c ((x :: A) ++ eln c x r :: l)
    unfold eln
    rw [h1]
    have h2' : Dt n c ((x :: A) ++ x :: l) = 0 := h2
    rw [h2']
    grind
theorem sm_zero {f : List Rw → Rat} {c : Nat} : ∀ (l pre : List Rw), (∀ r ∈ l, r c = 0) → sm f c pre l = 0
  | [], _, _ => rfl
  | r :: l, pre, h => by
    show r c * f (pre ++ l) - sm f c (pre ++ [r]) l = 0
    rw [h r List.mem_cons_self, sm_zero l _ (fun q hq => h q (List.mem_cons_of_mem _ hq))]
    grind
theorem dt_step {n c : Nat} {x : Rw} {l : List Rw} (hx : x c ≠ 0) (hl : l.length = n) : Dt (n + 1) c (x :: l) = x c * Dt n (c + 1) (l.map (eln c x)) := by
  rw [show x :: l = x :: ([] ++ l) from rfl, eln_all l [] (by simp only [List.length_nil]; omega)]
  show x c * Dt n (c + 1) (l.map (eln c x)) - sm (Dt n (c + 1)) c [x] (l.map (eln c x)) = _
  rw [sm_zero _ _ (fun r hr => by
    obtain ⟨q, _, rfl⟩ := List.mem_map.1 hr
    show q c + -(q c / x c) * x c = 0
    rw [Rat.neg_mul, Rat.div_mul_cancel hx]
    grind)]
  grind
/-- The rows behind k steps of elimination. -/
def Mr (g : Nat → Rw) : Nat → Nat → Rw
  | 0, i => g i
  | k + 1, i => eln k (Mr g k k) (Mr g k i)
def pr (g : Nat → Rw) (t : Nat) : Nat → Rat
  | 0 => 1
  | d + 1 => Mr g t t t * pr g (t + 1) d
theorem pr_snoc (g : Nat → Rw) : ∀ d t, pr g t (d + 1) = pr g t d * Mr g (t + d) (t + d) (t + d)
  | 0, t => by show Mr g t t t * 1 = 1 * Mr g (t + 0) (t + 0) (t + 0); rw [Nat.add_zero]; grind
  | d + 1, t => by
    show Mr g t t t * pr g (t + 1) (d + 1) = Mr g t t t * pr g (t + 1) d * _
    rw [pr_snoc g d (t + 1), show t + 1 + d = t + (d + 1) by omega]
    grind
theorem det_M (g : Nat → Rw) (i : Nat) : ∀ d t, (∀ s, t ≤ s → s < t + d → Mr g s s s ≠ 0) → Dt (d + 1) t ((List.range' t d).map (Mr g t) ++ [Mr g t i]) = pr g t d * Mr g (t + d) i (t + d)
  | 0, t, _ => by
    show Mr g t i t * 1 - 0 = 1 * Mr g (t + 0) i (t + 0)
    rw [Nat.add_zero]; grind
  | d + 1, t, h => by
    rw [List.range'_succ, List.map_cons, List.cons_append, dt_step (h t (Nat.le_refl _) (by omega)) (by simp), List.map_append, List.map_map]
    have := det_M g i d (t + 1) (fun s h1 h2 => h s (by omega) (by omega))
    rw [show t + (d + 1) = t + 1 + d by omega]
    show Mr g t t t * Dt (d + 1) (t + 1) (List.map (Mr g (t + 1)) (List.range' (t + 1) d) ++ [Mr g (t + 1) i]) = Mr g t t t * pr g (t + 1) d * _
    rw [this]
    grind
def IsW (q : Rat) : Prop := ∃ z : Int, q = (z : Rat)
theorem IsW.mul {a b : Rat} (h : IsW a) (k : IsW b) : IsW (a * b) := by obtain ⟨x, rfl⟩ := h; obtain ⟨y, rfl⟩ := k; exact ⟨x * y, (Rat.intCast_mul x y).symm⟩
theorem IsW.sub {a b : Rat} (h : IsW a) (k : IsW b) : IsW (a - b) := by obtain ⟨x, rfl⟩ := h; obtain ⟨y, rfl⟩ := k; exact ⟨x - y, (Rat.intCast_sub x y).symm⟩
theorem IsW.one : IsW 1 := ⟨1, rfl⟩
theorem IsW.zero : IsW 0 := ⟨0, rfl⟩
theorem sm_int {f : List Rw → Rat} {c : Nat} (hf : ∀ l : List Rw, (∀ r ∈ l, ∀ j, IsW (r j)) → IsW (f l)) : ∀ (l pre : List Rw), (∀ r ∈ l, ∀ j, IsW (r j)) → (∀ r ∈ pre, ∀ j, IsW (r j)) → IsW (sm f c pre l)
  | [], _, _, _ => IsW.zero
  | r :: l, pre, h, hp => by
    refine ((h r List.mem_cons_self c).mul (hf _ fun q hq => ?_)).sub (sm_int hf l _ (fun q hq => h q (List.mem_cons_of_mem _ hq)) fun q hq => ?_)
    · rcases List.mem_append.1 hq with h1 | h1
      · exact hp q h1
      · exact h q (List.mem_cons_of_mem _ h1)
    · rcases List.mem_append.1 hq with h1 | h1
      · exact hp q h1
      · rw [List.mem_singleton.1 h1]; exact h r List.mem_cons_self
theorem dt_int : ∀ n c (l : List Rw), (∀ r ∈ l, ∀ j, IsW (r j)) → IsW (Dt n c l)
  | 0, _, _, _ => IsW.one
  | n + 1, c, l, h => sm_int (dt_int n (c + 1)) l [] h (fun r hr => by cases hr)
theorem mr_col (g : Nat → Rw) (k j : Nat) : ∀ t, t ≤ k → ∀ i c, Mr (fun s c => if c < k then g s c else g s j) t i c = Mr g t i (if c < k then c else j)
  | 0, _, i, c => by show (if c < k then g i c else g i j) = g i _; split <;> rfl
  | t + 1, h, i, c => by
    have ih := mr_col g k j t (by omega)
    show Mr _ t i c + -(Mr _ t i t / Mr _ t t t) * Mr _ t t c = Mr g t i _ + -(Mr g t i t / Mr g t t t) * Mr g t t _
    rw [ih i c, ih i t, ih t t, ih t c, if_pos (show t < k by omega)]
theorem pr_col (g : Nat → Rw) (k j : Nat) : ∀ d t, t + d ≤ k → pr (fun s c => if c < k then g s c else g s j) t d = pr g t d
  | 0, _, _ => rfl
  | d + 1, t, h => by
    show Mr _ t t t * pr _ (t + 1) d = _ * _
    rw [pr_col g k j d (t + 1) (by omega), mr_col g k j t (by omega) t t, if_pos (show t < k by omega)]
/-- The numerators are whole. -/
theorem minor_int {g : Nat → Rw} (hg : ∀ s c, IsW (g s c)) {k : Nat} (hp : ∀ s, s < k → Mr g s s s ≠ 0) (i j : Nat) : IsW (pr g 0 k * Mr g k i j) := by
  have h := det_M (fun s c => if c < k then g s c else g s j) i k 0 (fun s _ hs => by
    rw [mr_col g k j s (by omega), if_pos (show s < k by omega)]; exact hp s (by omega))
  rw [pr_col g k j k 0 (by omega), Nat.zero_add, mr_col g k j k (Nat.le_refl _), if_neg (Nat.lt_irrefl k)] at h
  rw [← h]
  refine dt_int _ _ _ fun r hr c => ?_
  have hz : ∀ s c, IsW ((fun (s c : Nat) => if c < k then g s c else g s j) s c) := fun s c => by show IsW (if c < k then g s c else g s j); split <;> exact hg _ _
  rcases List.mem_append.1 hr with h1 | h1
  · obtain ⟨q, _, rfl⟩ := List.mem_map.1 h1; exact hz q c
  · rw [List.mem_singleton.1 h1]; exact hz i c
theorem mr_symm {g : Nat → Rw} (hg : ∀ i j, g i j = g j i) : ∀ k i j, Mr g k i j = Mr g k j i
  | 0, i, j => hg i j
  | k + 1, i, j => by
    show Mr g k i j + -(Mr g k i k / Mr g k k k) * Mr g k k j = Mr g k j i + -(Mr g k j k / Mr g k k k) * Mr g k k i
    rw [mr_symm hg k i j, mr_symm hg k k j, mr_symm hg k k i, Rat.div_def, Rat.div_def]
    grind
/-- The products of rows, as fractions. -/
def gU (b : List (List Int)) (i j : Nat) : Int := dotU (b.getD i []) (b.getD j []) (b.getD i []).length
def gR (b : List (List Int)) (i : Nat) : Rw := fun j => ((gU b i j : Int) : Rat)
theorem dotU_comm (xs ys : List Int) : ∀ n, dotU xs ys n = dotU ys xs n
  | 0 => rfl
  | n + 1 => by show dotU xs ys n + _ = dotU ys xs n + _; rw [dotU_comm xs ys n, Int.mul_comm]
/-- Products behind the length are nought. -/
theorem dotU_more {xs ys : List Int} {m : Nat} (h : xs.length ≤ m) : ∀ d, dotU xs ys (m + d) = dotU xs ys m
  | 0 => rfl
  | d + 1 => by
    show dotU xs ys (m + d) + xs.getD (m + d) 0 * _ = _
    rw [dotU_more h d, show xs.getD (m + d) 0 = 0 from by rw [List.getD_eq_getElem?_getD, List.getElem?_eq_none (by omega)]; rfl, Int.zero_mul, Int.add_zero]
theorem gU_symm (b : List (List Int)) (i j : Nat) : gU b i j = gU b j i := by
  unfold gU
  rcases Nat.le_total (b.getD i []).length (b.getD j []).length with h | h
  · obtain ⟨d, hd⟩ := Nat.le.dest h
    rw [← hd, dotU_comm (b.getD j []), dotU_more (Nat.le_refl _) d]
  · obtain ⟨d, hd⟩ := Nat.le.dest h
    rw [← hd, dotU_comm, dotU_more (Nat.le_refl _) d]
theorem gR_symm (b : List (List Int)) (i j : Nat) : gR b i j = gR b j i := by show ((gU b i j : Int) : Rat) = _; rw [gU_symm]; rfl
theorem gR_int (b : List (List Int)) (i j : Nat) : IsW (gR b i j) := ⟨_, rfl⟩
/-- All pivots ahead of n are above nought. -/
def Ok (b : List (List Int)) (n : Nat) : Prop := ∀ k, k < n → 0 < Mr (gR b) k k k
abbrev pb (b : List (List Int)) (k : Nat) : Rat := pr (gR b) 0 k
theorem pb_succ (b : List (List Int)) (k : Nat) : pb b (k + 1) = pb b k * Mr (gR b) k k k := by have := pr_snoc (gR b) k 0; rw [Nat.zero_add] at this; exact this
theorem pb_pos {b : List (List Int)} {n : Nat} (h : Ok b n) : ∀ k, k ≤ n → 0 < pb b k
  | 0, _ => by show (0 : Rat) < 1; decide
  | k + 1, hk => by rw [pb_succ]; exact Rat.mul_pos (pb_pos h k (by omega)) (h k (by omega))
theorem rat_pos_ne {q : Rat} (h : 0 < q) : q ≠ 0 := fun e => by rw [e] at h; exact absurd h (Rat.lt_irrefl)
theorem ok_ne {b : List (List Int)} {n : Nat} (h : Ok b n) {k : Nat} (hk : k < n) : Mr (gR b) k k k ≠ 0 := rat_pos_ne (h k hk)
/-- What the data say, so far. -/
structure DI (b : List (List Int)) (i : Nat) (D : List Int) (L : List (List Int)) : Prop where
  lD : D.length = i + 1
  lL : L.length = i
  ok : Ok b i
  d : ∀ k, k ≤ i → ((D.getD k 0 : Int) : Rat) = pb b k
  lr : ∀ j, j < i → (L.getD j []).length = j
  l : ∀ j k, j < i → k < j → (((L.getD j []).getD k 0 : Int) : Rat) = pb b k * Mr (gR b) k j k
theorem fdiv_exact {x d z : Int} (hd : d ≠ 0) (h : x = d * z) : Int.fdiv x d = z := by subst h; exact Int.mul_fdiv_cancel_left z hd
theorem step_exact {b : List (List Int)} {D Lr row : List Int} {i j k : Nat} {u : Int} (hok : Ok b (k + 1)) (h0 : ((D.getD k 0 : Int) : Rat) = pb b k) (h1 : ((D.getD (k + 1) 0 : Int) : Rat) = pb b (k + 1)) (hu : ((u : Int) : Rat) = pb b k * Mr (gR b) k i j) (hr : ((row.getD k 0 : Int) : Rat) = pb b k * Mr (gR b) k i k) (hl : ((Lr.getD k 0 : Int) : Rat) = pb b k * Mr (gR b) k j k) : ((stepU D Lr row k u : Int) : Rat) = pb b (k + 1) * Mr (gR b) (k + 1) i j := by
  obtain ⟨z, hz⟩ := minor_int (gR_int b) (k := k + 1) (fun s hs => ok_ne hok hs) i j
  have hp := rat_pos_ne (pb_pos hok k (by omega))
  have hm := ok_ne hok (Nat.lt_succ_self k)
  have e : D.getD (k + 1) 0 * u - row.getD k 0 * Lr.getD k 0 = D.getD k 0 * z := by
    refine Rat.intCast_inj.1 ?_
    rw [Rat.intCast_sub, Rat.intCast_mul, Rat.intCast_mul, Rat.intCast_mul, h0, h1, hu, hr, hl, ← hz]
    show pb b (k + 1) * (pb b k * Mr (gR b) k i j) - pb b k * Mr (gR b) k i k * (pb b k * Mr (gR b) k j k) = pb b k * (pb b (k + 1) * (Mr (gR b) k i j + -(Mr (gR b) k i k / Mr (gR b) k k k) * Mr (gR b) k k j))
    rw [pb_succ, mr_symm (gR_symm b) k k j]
    generalize Mr (gR b) k k k = m at hm
    generalize Mr (gR b) k i k = x
    generalize Mr (gR b) k j k = y
    generalize pb b k = p at hp
    grind
  have hd : D.getD k 0 ≠ 0 := fun e0 => by rw [e0] at h0; exact hp h0.symm
  unfold stepU
  rw [fdiv_exact hd e, hz]
theorem red_exact {b : List (List Int)} {D : List Int} {L : List (List Int)} {row : List Int} {i j : Nat} (h : DI b i D L) (hji : j ≤ i) (hr : ∀ k, k < j → ((row.getD k 0 : Int) : Rat) = pb b k * Mr (gR b) k i k) : ∀ k, k ≤ j → ((redU D (pickL L row i j) row (gU b i j) k : Int) : Rat) = pb b k * Mr (gR b) k i j
  | 0, _ => by show ((gU b i j : Int) : Rat) = 1 * ((gU b i j : Int) : Rat); grind
  | k + 1, hk => by
    refine step_exact (fun s hs => h.ok s (by omega)) (h.d k (by omega)) (h.d (k + 1) (by omega)) (red_exact h hji hr k (by omega)) (hr k (by omega)) ?_
    unfold pickL
    split
    · exact h.l j k (by assumption) (by omega)
    · have : j = i := by omega
      subst this; exact hr k (by omega)
theorem row_len {b : List (List Int)} {D : List Int} {L : List (List Int)} {i : Nat} : ∀ j, (rowU b D L i j).length = j
  | 0 => rfl
  | j + 1 => by unfold rowU; rw [List.length_append, row_len j]; rfl
theorem row_exact {b : List (List Int)} {D : List Int} {L : List (List Int)} {i : Nat} (h : DI b i D L) : ∀ j, j ≤ i + 1 → ∀ k, k < j → (((rowU b D L i j).getD k 0 : Int) : Rat) = pb b k * Mr (gR b) k i k
  | 0, _, k, hk => absurd hk (Nat.not_lt_zero _)
  | j + 1, hj, k, hk => by
    unfold rowU
    rcases Nat.lt_or_ge k j with h1 | h1
    · rw [gl_lt (by rw [row_len]; exact h1)]; exact row_exact h j (by omega) k h1
    · rw [gl_eq (by rw [row_len]; omega), show k = j by omega]
      exact red_exact h (by omega) (fun k hk => row_exact h j (by omega) k hk) j (Nat.le_refl _)
theorem row_pos {b : List (List Int)} {D : List Int} {L : List (List Int)} {i : Nat} (h : DI b i D L) : 0 < (rowU b D L i (i + 1)).getD i 0 ↔ 0 < Mr (gR b) i i i := by
  have e := row_exact h (i + 1) (Nat.le_refl _) i (Nat.lt_succ_self i)
  have hp := pb_pos h.ok i (Nat.le_refl _)
  rw [← Rat.intCast_lt_intCast, e]
  show (0 : Rat) < _ ↔ _
  constructor
  · intro h1
    by_cases h2 : 0 < Mr (gR b) i i i
    · exact h2
    · exfalso
      replace h2 := Rat.not_lt.1 h2
      have := Rat.mul_le_mul_of_nonneg_left h2 (Rat.le_of_lt hp)
      rw [Rat.mul_zero] at this
      exact absurd h1 (Rat.not_lt.2 this)
  · exact Rat.mul_pos hp
theorem DI.zero (b : List (List Int)) : DI b 0 [1] [] := ⟨rfl, rfl, fun k hk => absurd hk (Nat.not_lt_zero _), fun k hk => by rw [show k = 0 by omega]; rfl, fun j hj => absurd hj (Nat.not_lt_zero _), fun j k hj => absurd hj (Nat.not_lt_zero _)⟩
theorem DI.step {b : List (List Int)} {D : List Int} {L : List (List Int)} {i : Nat} (h : DI b i D L) (hp : 0 < (rowU b D L i (i + 1)).getD i 0) : DI b (i + 1) (D ++ [(rowU b D L i (i + 1)).getD i 0]) (L ++ [(rowU b D L i (i + 1)).take i]) := by
  have hm := (row_pos h).1 hp
  have hr := row_exact h (i + 1) (Nat.le_refl _)
  refine ⟨by rw [List.length_append, h.lD]; rfl, by rw [List.length_append, h.lL]; rfl, fun k hk => ?_, fun k hk => ?_, fun j hj => ?_, fun j k hj hk => ?_⟩
  · rcases Nat.lt_or_ge k i with h1 | h1
    · exact h.ok k h1
    · rw [show k = i by omega]; exact hm
  · rcases Nat.lt_or_ge k (i + 1) with h1 | h1
    · rw [gl_lt (by rw [h.lD]; exact h1)]; exact h.d k (by omega)
    · rw [gl_eq (by rw [h.lD]; omega), show k = i + 1 by omega, hr i (Nat.lt_succ_self i), pb_succ]
  · rcases Nat.lt_or_ge j i with h1 | h1
    · rw [gl_lt (by rw [h.lL]; exact h1)]; exact h.lr j h1
    · rw [gl_eq (by rw [h.lL]; omega), List.length_take, row_len]; omega
  · rcases Nat.lt_or_ge j i with h1 | h1
    · rw [gl_lt (by rw [h.lL]; exact h1)]; exact h.l j k h1 hk
    · rw [gl_eq (by rw [h.lL]; omega), take_getD (by omega), hr k (by omega), show j = i by omega]
end Go.Proofs.YtffnfbhhjjbjbaaGreat.V
/- The data of rows, and what refuses them. -/
set_option linter.unusedVariables false
set_option linter.unusedSimpArgs false
set_option maxRecDepth 100000
namespace Go.Proofs.YtffnfbhhjjbjbaaGreat.V
open Go.RowKit Mt Nml
end Go.Proofs.YtffnfbhhjjbjbaaGreat.V
/- The document: rows made orthogonal. -/
set_option linter.unusedVariables false
set_option linter.unusedSimpArgs false
set_option maxRecDepth 100000
namespace Go.Proofs.YtffnfbhhjjbjbaaGreat.V
open Go.RowKit Mt Nml
/-- The coefficients and squared lengths of rows, as fractions. -/
def mR (b : List (List Int)) (i j : Nat) : Rat := Mr (gR b) j i j / Mr (gR b) j j j
def sR (b : List (List Int)) (i : Nat) : Rat := Mr (gR b) i i i
theorem rng_at {α : Type} {f : Nat → α} {d : α} {n k : Nat} (h : k < n) : ((List.range n).map f).getD k d = f k := by
  rw [List.getD_eq_getElem?_getD, List.getElem?_map, List.getElem?_range h]; rfl
end Go.Proofs.YtffnfbhhjjbjbaaGreat.V
/- The data of rows: how large, and that the squared length of a sum of rows is what the data say. -/
set_option linter.unusedVariables false
namespace Go.Proofs.YtffnfbhhjjbjbaaGreat.V
open Mt Nml
theorem RI.row {b : List (List Int)} {D : List Int} {L : List (List Int)} {S i : Nat} (hB : BI S i D L) (hS : ∀ j, j ≤ i → zl (gU b i j) ≤ S) : ∀ j, j ≤ i + 1 → RI S j (rowU b D L i j)
  | 0, _ => RI.zero S
  | j + 1, hj => by
    have h := RI.row hB hS j (by omega)
    unfold rowU
    exact h.snoc (red_bd hB h (by omega) (hS j (by omega)) (Nat.le_refl _))
theorem Ok.mono {b : List (List Int)} {m n : Nat} (h : Ok b n) (hm : m ≤ n) : Ok b m := fun k hk => h k (by omega)
/-- Sums of fractions. -/
def sumN (f : Nat → Rat) : Nat → Rat
  | 0 => 0
  | n + 1 => sumN f n + f n
theorem sum_congr {f g : Nat → Rat} : ∀ {n : Nat}, (∀ i, i < n → f i = g i) → sumN f n = sumN g n
  | 0, _ => rfl
  | n + 1, h => by show sumN f n + f n = sumN g n + g n; rw [sum_congr fun i hi => h i (by omega), h n (by omega)]
theorem sum_add (f g : Nat → Rat) : ∀ n, sumN (fun i => f i + g i) n = sumN f n + sumN g n
  | 0 => by show (0 : Rat) = 0 + 0; grind
  | n + 1 => by show sumN _ n + (f n + g n) = sumN f n + f n + (sumN g n + g n); rw [sum_add f g n]; grind
theorem sum_mul (c : Rat) (f : Nat → Rat) : ∀ n, sumN (fun i => c * f i) n = c * sumN f n
  | 0 => by show (0 : Rat) = c * 0; grind
  | n + 1 => by show sumN _ n + c * f n = c * (sumN f n + f n); rw [sum_mul c f n]; grind
theorem sum_zero {f : Nat → Rat} {n : Nat} (h : ∀ i, i < n → f i = 0) : sumN f n = 0 := by
  rw [sum_congr (g := fun _ => 0 * 0) fun i hi => by rw [h i hi]; grind]
  rw [sum_mul]; grind
theorem sum_swap (f : Nat → Nat → Rat) (m : Nat) : ∀ n, sumN (fun i => sumN (f i) m) n = sumN (fun j => sumN (fun i => f i j) n) m
  | 0 => by show (0 : Rat) = sumN (fun _ => 0) m; exact (sum_zero fun _ _ => rfl).symm
  | n + 1 => by
    show sumN _ n + sumN (f n) m = sumN (fun j => sumN (fun i => f i j) n + f n j) m
    rw [sum_swap f m n, sum_add]
/-- What elimination has done away with. -/
theorem mr_zero {b : List (List Int)} {n : Nat} (h : Ok b n) : ∀ k, k ≤ n → ∀ j, j < k → ∀ c, Mr (gR b) k j c = 0
  | 0, _, j, hj, c => absurd hj (Nat.not_lt_zero _)
  | k + 1, hk, j, hj, c => by
    show Mr (gR b) k j c + -(Mr (gR b) k j k / Mr (gR b) k k k) * Mr (gR b) k k c = 0
    have hm := ok_ne h (show k < n by omega)
    rcases Nat.lt_or_eq_of_le (Nat.le_of_lt_succ hj) with h1 | h1
    · rw [mr_zero h k (by omega) j h1 c, mr_zero h k (by omega) j h1 k]
      rw [Rat.div_def]; grind
    · subst h1
      generalize Mr (gR b) j j j = m at hm
      generalize Mr (gR b) j j c = x
      grind
theorem DI.mu {b : List (List Int)} {n : Nat} {D : List Int} {L : List (List Int)} (h : DI b n D L) {i j : Nat} (hi : i < n) (hj : j < i) : (((L.getD i []).getD j 0 : Int) : Rat) / ((D.getD (j + 1) 0 : Int) : Rat) = mR b i j := by
  have hp := rat_pos_ne (pb_pos h.ok j (by omega))
  have hm := ok_ne h.ok (show j < n by omega)
  rw [h.d (j + 1) (by omega), h.l i j hi hj, pb_succ]
  unfold mR
  generalize Mr (gR b) j j j = m at hm
  generalize Mr (gR b) j i j = x
  generalize pb b j = p at hp
  grind
/-! ### sums of rows -/
theorem DI.good {b : List (List Int)} {n : Nat} {D : List Int} {L : List (List Int)} (h : DI b n D L) (hn : 0 < n) : GoodP D L := by
  have hpos : ∀ k, k ≤ n → 0 < D.getD k 0 := fun k hk => by
    have := pb_pos h.ok k hk
    rw [← h.d k hk] at this
    exact Rat.intCast_pos.1 this
  refine ⟨by rw [h.lL]; exact hn, by rw [h.lD, h.lL], ?_, fun i hi => ?_⟩
  · have := h.d 0 (Nat.zero_le _)
    exact Rat.intCast_inj.1 (this.trans rfl)
  · rw [h.lL] at hi
    exact ⟨h.lr i hi, hpos (i + 1) (by omega)⟩
end Go.Proofs.YtffnfbhhjjbjbaaGreat.V
/- The nearest point: the normal equations, and how far it is. -/
set_option linter.unusedVariables false
set_option maxRecDepth 100000
namespace Go.Proofs.YtffnfbhhjjbjbaaGreat.V
open Go.RowKit Mt Nml
/-- The coefficient of a row along a star, whichever. -/
def Wq (b : List (List Int)) (i l : Nat) : Rat := Mr (gR b) l i l / Mr (gR b) l l l
theorem gram_step {b : List (List Int)} {n : Nat} (h : Ok b n) (i m : Nat) : ∀ k, k ≤ n → gR b i m = sumN (fun l => Wq b i l * (Wq b m l * sR b l)) k + Mr (gR b) k i m
  | 0, _ => by show gR b i m = (0 : Rat) + gR b i m; grind
  | k + 1, hk => by
    have hm := ok_ne h (show k < n by omega)
    rw [gram_step h i m k (by omega)]
    show sumN _ k + Mr (gR b) k i m = sumN _ k + Wq b i k * (Wq b m k * sR b k) + (Mr (gR b) k i m + -(Mr (gR b) k i k / Mr (gR b) k k k) * Mr (gR b) k k m)
    rw [mr_symm (gR_symm b) k k m]
    unfold Wq sR
    generalize Mr (gR b) k k k = q at hm
    generalize Mr (gR b) k i k = x
    generalize Mr (gR b) k m k = y
    grind
theorem gram_W {b : List (List Int)} {n : Nat} (h : Ok b n) {i : Nat} (hi : i < n) (m : Nat) : gR b i m = sumN (fun l => Wq b i l * (Wq b m l * sR b l)) n := by
  rw [gram_step h i m n (Nat.le_refl _), mr_zero h n (Nat.le_refl _) i hi m]
  grind
/-- What is known of the coefficients: Y along the stars, C along the rows. -/
structure Near (b : List (List Int)) (n : Nat) (a Y C : Nat → Rat) : Prop where
  ok : Ok b n
  y : ∀ i, i < n → a i = sumN (fun l => Wq b i l * sR b l * Y l) n
  c : ∀ l, l < n → Y l = sumN (fun i => C i * Wq b i l) n
/-- The normal equations. -/
theorem Near.normal {b : List (List Int)} {n : Nat} {a Y C : Nat → Rat} (h : Near b n a Y C) {m : Nat} (hm : m < n) : sumN (fun i => C i * gR b i m) n = a m := by
  rw [sum_congr (g := fun i => sumN (fun l => C i * (Wq b i l * (Wq b m l * sR b l))) n) (fun i hi => by rw [gram_W h.ok hi m, sum_mul]), sum_swap, h.y m hm]
  refine sum_congr fun l hl => ?_
  rw [sum_congr (g := fun i => (Wq b m l * sR b l) * (C i * Wq b i l)) (fun i _ => by grind), sum_mul, ← h.c l hl]
/-! ### columns -/
abbrev tq (ts : List (Int × Int)) (k : Nat) : Rat := ((ts.getD k (0, 0)).1 : Rat) / ((ts.getD k (0, 0)).2 : Rat)
/-- The product of what is left and a row, term by term. -/
def nq (b : List (List Int)) (c : List Rat) (ts : List (Int × Int)) (n i : Nat) : Nat → Rat
  | 0 => 0
  | k + 1 => nq b c ts n i k + lq b c (tq ts k) k n * (((b.getD i []).getD k 0 : Int) : Rat)
end Go.Proofs.YtffnfbhhjjbjbaaGreat.V
/- A search tree: centres and parts as plain sums, and how large they are. -/
set_option linter.unusedVariables false
set_option maxRecDepth 100000
namespace Go.Proofs.YtffnfbhhjjbjbaaGreat.V
open Go.RowKit Mt Nml
/-- The target's coefficient of a row. -/
def aqT (ts : List (Int × Int)) (i : Nat) : Rat := if ts.length = 0 then 0 else tq ts i
/-- The centre of a suffix, after k of its numbers: i is the row, m the last row. -/
def ctT (D : List Int) (L : List (List Int)) (ts : List (Int × Int)) (s : List Int) (m i : Nat) : Nat → Rat
  | 0 => aqT ts i
  | k + 1 => ctT D L ts s m i k - (((s.getD k 0 : Int) : Rat) - aqT ts (m - k)) * muq D L (m - k) i
/-- The part of a suffix's first k numbers. -/
def ptT (D : List Int) (L : List (List Int)) (ts : List (Int × Int)) (s : List Int) (m : Nat) : Nat → Rat
  | 0 => 0
  | k + 1 => ptT D L ts s m k + (((s.getD k 0 : Int) : Rat) - ctT D L ts s m (m - k) k) * (((s.getD k 0 : Int) : Rat) - ctT D L ts s m (m - k) k) * stq D (m - k)
/-! ### sizes -/
theorem QB.nd {q : Rat} {k : Nat} (h : QB q k) : 0 < ((q.den : Int)) ∧ ((q.num : Rat) / (((q.den : Int)) : Rat) = q) ∧ zl q.num ≤ k ∧ zl (q.den : Int) ≤ k := ⟨den_p' q, rat_nd q, h.1, h.2⟩
theorem QB.add2 {x y : Rat} {k l : Nat} (h : QB x k) (h' : QB y l) : QB (x + y) (k + l + 1) := QB.addv (QB.nd h).1 (QB.nd h').1 (QB.nd h).2.1 (QB.nd h').2.1 h.1 h.2 h'.1 h'.2
theorem QB.sub2 {x y : Rat} {k l : Nat} (h : QB x k) (h' : QB y l) : QB (x - y) (k + l + 1) := QB.subv (QB.nd h).1 (QB.nd h').1 (QB.nd h).2.1 (QB.nd h').2.1 h.1 h.2 h'.1 h'.2
theorem QB.mul2 {x y : Rat} {k l : Nat} (h : QB x k) (h' : QB y l) : QB (x * y) (k + l) := QB.mulv (QB.nd h).1 (QB.nd h').1 (QB.nd h).2.1 (QB.nd h').2.1 h.1 h.2 h'.1 h'.2
theorem QB.int {z : Int} {k : Nat} (h : zl z ≤ k) : QB (z : Rat) (k + 1) := by
  have := qb_div h zl_one (by decide : (1 : Int) ≠ 0)
  rw [show (z : Rat) / ((1 : Int) : Rat) = (z : Rat) from by rw [show ((1 : Int) : Rat) = 1 from rfl]; grind] at this
  exact QB.mono this (by omega)
theorem QB.frac {a b : Int} {k : Nat} (h : zl a ≤ k) (h' : zl b ≤ k) (hb : b ≠ 0) : QB ((a : Rat) / (b : Rat)) k := by
  have := qb_div h h' hb
  rwa [Nat.max_self] at this
/-- What is known of a tree: as many rows as m + 1, numbers of at most k limbs. -/
structure TrS (D : List Int) (L : List (List Int)) (ts : List (Int × Int)) (n k : Nat) : Prop where
  good : GoodP D L
  len : L.length = n
  twelve : n ≤ 12
  tl : ts.length = 0 ∨ ts.length = n
  tp : ∀ i, i < ts.length → 0 < (ts.getD i (0, 0)).2
  zt : ∀ i, i < ts.length → zl (ts.getD i (0, 0)).1 ≤ k ∧ zl (ts.getD i (0, 0)).2 ≤ k
  zD : ∀ j, zl (D.getD j 0) ≤ k
  zL : ∀ i j, zl ((L.getD j []).getD i 0) ≤ k
  hk : k ≤ 1048576
namespace TrS
variable {D : List Int} {L : List (List Int)} {ts : List (Int × Int)} {n k : Nat} (h : TrS D L ts n k)
include h
theorem pos : 0 < n := by have := h.good.1; have := h.len; omega
theorem dp {i : Nat} (hi : i ≤ n) : 0 < D.getD i 0 := h.good.pos (by rw [h.len]; exact hi)
theorem a {i : Nat} (hi : i < n) : QB (aqT ts i) (k + 2) := by
  unfold aqT
  split
  · exact QB.mono (QB.int (z := 0) (k := 0) (by rw [zl_zero]; exact Nat.le_refl _)) (by omega)
  · rename_i h0
    rcases h.tl with h1 | h1
    · exact absurd h1 h0
    · have := h.tp i (by omega)
      exact QB.mono (QB.frac (h.zt i (by omega)).1 (h.zt i (by omega)).2 (by omega)) (by omega)
theorem mu {i j : Nat} (hi : i ≤ n) (hj : j < i) : QB (muq D L i j) k := QB.frac (h.zL _ _) (h.zD _) (by have := h.dp (i := j + 1) (by omega); omega)
theorem st {i : Nat} (hi : i < n) : QB (stq D i) k := QB.frac (h.zD _) (h.zD _) (by have := h.dp (i := i) (by omega); omega)
theorem ct {s : List Int} (hs : ∀ j, zl (s.getD j 0) ≤ k) {m i : Nat} (hm : m + 1 = n) : ∀ {c : Nat}, i + c ≤ m → QB (ctT D L ts s m i c) (k + 2 + c * (3 * k + 6))
  | 0, hc => QB.mono (h.a (by omega)) (by omega)
  | c + 1, hc => by
    have h1 := ct hs (m := m) (i := i) hm (c := c) (by omega)
    have h2 := QB.mul2 (QB.sub2 (QB.int (hs c)) (h.a (i := m - c) (by omega))) (h.mu (i := m - c) (j := i) (by omega) (by omega))
    have h3 := QB.sub2 h1 h2
    refine QB.mono h3 ?_
    have e : (c + 1) * (3 * k + 6) = c * (3 * k + 6) + (3 * k + 6) := Nat.succ_mul _ _
    omega
/-- One size for all centres. -/
theorem ct' {s : List Int} (hs : ∀ j, zl (s.getD j 0) ≤ k) {m i c : Nat} (hm : m + 1 = n) (hc : i + c ≤ m) : QB (ctT D L ts s m i c) 67108864 := by
  have h1 := h.ct hs hm hc
  have h2 := h.hk
  have h3 := h.twelve
  have h4 : c * (3 * k + 6) ≤ 11 * 3145734 := Nat.mul_le_mul (by omega) (by omega)
  exact QB.mono h1 (by omega)
theorem pt {s : List Int} (hs : ∀ j, zl (s.getD j 0) ≤ k) {m : Nat} (hm : m + 1 = n) : ∀ {c : Nat}, c ≤ n → QB (ptT D L ts s m c) (1 + c * 138412056)
  | 0, hc => QB.int (z := 0) (k := 0) (by rw [zl_zero]; exact Nat.le_refl _)
  | c + 1, hc => by
    have h1 := pt hs hm (c := c) (by omega)
    have h2 := QB.sub2 (QB.int (hs c)) (h.ct' hs (m := m) (i := m - c) (c := c) hm (by omega))
    have h3 := QB.add2 h1 (QB.mul2 (QB.mul2 h2 h2) (h.st (i := m - c) (by omega)))
    have h4 := h.hk
    refine QB.mono h3 ?_
    have e : (c + 1) * 138412056 = c * 138412056 + 138412056 := Nat.succ_mul _ _
    omega
end TrS
/-! ### a leaf's part is a squared length -/
end Go.Proofs.YtffnfbhhjjbjbaaGreat.V
/- What a basis is; sums of rows. -/
set_option linter.unusedVariables false
set_option linter.unusedSimpArgs false
set_option maxRecDepth 100000
namespace Go.Proofs.YtffnfbhhjjbjbaaGreat.V
open Go.RowKit Mt Nml
end Go.Proofs.YtffnfbhhjjbjbaaGreat.V
/- The law of the lengths. -/
set_option linter.unusedVariables false
set_option linter.unusedSimpArgs false
set_option maxRecDepth 100000
namespace Go.Proofs.YtffnfbhhjjbjbaaGreat.V
open Go.RowKit Mt Nml
theorem shr_zero {b : List (List Int)} {q : Bool} (h : ShR b q 0) : ¬ BigB b q ∧ b.length ≠ 0 ∧ ¬ BadB b := by
  have h1 : ¬ BigB b q := fun k => by have := h.big k; omega
  have h2 : b.length ≠ 0 := fun k => by have := h.nil h1 k; omega
  exact ⟨h1, h2, fun k => by have := h.bad h1 h2 k; omega⟩
theorem g_le {D : List Int} {L : List (List Int)} {K : Nat} : (T.st [T.l (cZ K) D, T.l (cL (cZ K)) L]).le (T.G D L K) := st_le (l := [T.l (cZ K) D, T.l (cL (cZ K)) L]) (l' := [T.l (cZi K) D, T.l (cL (cZi K)) L]) ⟨tl_le (fun z => z_zi z K) D, tl_le (fun r => tl_le (fun z => z_zi z K) r) L, trivial⟩
end Go.Proofs.YtffnfbhhjjbjbaaGreat.V
/- A filter over data and a target: norms. -/
set_option linter.unusedVariables false
set_option linter.unusedSimpArgs false
set_option maxRecDepth 100000
namespace Go.Proofs.YtffnfbhhjjbjbaaGreat.V
open Go.RowKit Mt Nml
theorem fnc_le {f : FuncId} : (T.c (.func (.func f) #[] #[])).le (T.fn f []) := fun β u v h => ⟨[], h, trivial⟩
theorem take_snoc {α : Type} {l : List α} {i : Nat} {d : α} (h : i < l.length) : l.take i ++ [l.getD i d] = l.take (i + 1) := by
  rw [List.getD_eq_getElem?_getD, List.getElem?_eq_getElem h, Option.getD_some, List.take_append_getElem h]
theorem f_own {l : List Int} {k : Nat} (hl : l.length ≤ 1048576) (hk : k ≤ 1099511627776) : Fn Tryz.prog 206 [T.l (cZi k) l] [] [] [] (T.l (cZ k) l) := by
  refine fn_of Tryz.func206 rfl (by show 1 ≤ 19; decide) fun cx hcx => ?_
  refine tri_sub (sl 0 rfl sn) en ?_
  refine tri_seq ?_
  refine tri_reg mixed hcx ?_ _ _
  refine asg rfl ?_
  refine ⟨by kernel_rfl, ?_⟩
  refine nx (sl 0 rfl sn) en ?_
  refine tri_seq ?_
  refine tri_reg mixed hcx ?_ _ _
  refine asg rfl ?_
  refine ⟨by kernel_rfl, ?_⟩
  refine nx (sl 0 rfl (sl 3 rfl sn)) en ?_
  refine tri_seq ?_
  refine tri_seq ?_
  refine tri_nil 3 9 29 (cZ k) rfl (by rw [hcx]; kernel_rfl) ?_
  refine tri_reg mixed hcx ?_ _ _
  refine mv rfl ?_
  refine ln slZs rfl ?_
  refine mv rfl ?_
  refine ⟨by kernel_rfl, ?_⟩
  refine nx (sl 3 rfl (sl 6 rfl (sl 7 rfl (sl 8 rfl sn)))) (el 9 rfl en) ?_
  refine tri_block ?_
  refine tri_loop (ι := Nat) (fun i => [(3, T.o 9), (6, T.l (cZi k) l), (7, T.c (.int .i64 (l.length : Int))), (8, T.c (.int .i64 (i : Int)))]) (fun i => [(9, some (Ent.row (cZ k) 29 (l.take i)))]) (fun i => l.length - i) (fun i => (i ≤ l.length)) 0 (Nat.zero_le _) (sl 3 rfl (sl 6 rfl (sl 7 rfl (sl 8 rfl sn)))) (el 9 rfl en) ?_
  rintro i hi
  refine tri_sub (sl 3 rfl (sl 6 rfl (sl 7 rfl (sl 8 rfl sn)))) (el 9 rfl en) ?_
  have htk : (l.take i).length = i := by rw [List.length_take]; omega
  refine tri_seq ?_
  refine tri_reg mixed hcx ?_ _ _
  refine clt rfl rfl rfl ?_
  refine ⟨by kernel_rfl, ?_⟩
  refine nx (sl 3 rfl (sl 6 rfl (sl 7 rfl (sl 8 rfl (sl 9 rfl sn))))) (el 9 rfl en) ?_
  refine tri_seq ?_
  refine tri_if rfl (fun hc => ?_) (fun hc => ?_)
  · have hc2 : i < l.length := by omega
    refine tri_skip ?_
    refine nx (sl 3 rfl (sl 6 rfl (sl 7 rfl (sl 8 rfl sn)))) (el 9 rfl en) ?_
    refine tri_seq ?_
    refine tri_block ?_
    refine tri_seq ?_
    refine tri_reg mixed hcx ?_ _ _
    refine ix rfl rfl slZs ⟨rfl, by omega⟩ ?_
    refine lf rfl tyZ ?_
    refine nw 412 zeZ ?_
    refine st rfl rfl rfl tyZ rfl ?_
    refine ⟨by kernel_rfl, ?_⟩
    refine nx (sl 3 rfl (sl 5 rfl (sl 6 rfl (sl 7 rfl (sl 8 rfl sn))))) (el 9 rfl (el 412 rfl en)) ?_
    refine tri_reg mixed hcx ?_ _ _
    refine mv rfl ?_
    refine ld rfl rfl tyZ rfl ?_
    refine ca rfl (h := zi_Form (by omega)) (hn := ?_)
    refine bs (c := cZ k) (xs := [l.getD i (cZi k).dflt]) slZs rfl ⟨.refl _, trivial⟩ ?_
    refine ap 514 rfl rfl rfl slZs (by simp only [List.length_cons, List.length_nil]; omega) (by decide) ?_
    refine asg rfl ?_
    refine ⟨by kernel_rfl, ?_⟩
    refine pn_blk ?_
    refine nx (sl 3 rfl (sl 6 rfl (sl 7 rfl (sl 8 rfl sn)))) (el 412 rfl (el 514 rfl en)) ?_
    refine tri_reg mixed hcx ?_ _ _
    refine ad (((i + 1 : Nat) : Int)) rfl rfl rfl (by omega) ?_
    refine mv rfl ?_
    refine ⟨by kernel_rfl, ?_⟩
    refine pn_sub (sl 3 rfl (sl 6 rfl (sl 7 rfl (sl 8 rfl sn)))) (el 412 rfl (el 514 rfl en)) ?_
    refine pn_ren 3 9 514 rfl rfl (by rw [hcx]; kernel_rfl) ?_
    exact pn_back (i + 1) (by first | omega | (dsimp only; omega)) (by omega) (sl 3 rfl (sl 6 rfl (sl 7 rfl (sl 8 rfl sn)))) (ew 9 rfl (.of (by rw [show (cZi k).dflt = 0 from rfl, take_snoc hc2])) en)
  · refine tri_exit ?_
    repeat (first | refine pn_then ?_ | refine pn_oth (by decide) ?_)
    refine pn_ex ?_
    have hin : i = l.length := by omega
    refine nx (sl 3 rfl sn) (el 9 rfl en) ?_
    refine tri_seq ?_
    refine tri_fz 9 rfl ?_
    refine tri_rd 3 9 rfl rfl ?_
    refine tri_as 3 (Z := T.l (cZ k) l) rfl (.of (by rw [hin, List.take_length])) ?_
    refine tri_reg mixed hcx ?_ _ _
    refine mv rfl ?_
    refine asg rfl ?_
    refine ⟨by kernel_rfl, ?_⟩
    refine nx (sl 2 rfl sn) en ?_
    refine tri_ret ?_
    repeat (first | refine pn_thenr ?_ | refine pn_blkr ?_)
    exact ret1 hcx rfl (rv_tmp rfl) (.refl _) en

theorem f_copied {D : List Int} {L : List (List Int)} {k : Nat} (hD : D.length ≤ 1048576) (hL : L.length ≤ 1048576) (hLr : ∀ i, i < L.length → (L.getD i []).length ≤ 1048576) (hk : k ≤ 1099511627776) : Fn Tryz.prog 174 [T.G D L k] [] [] [] (T.st [T.l (cZ k) D, T.l (cL (cZ k)) L]) := by
  refine fn_of Tryz.func174 rfl (by show 1 ≤ 29; decide) fun cx hcx => ?_
  refine tri_sub (sl 0 rfl sn) en ?_
  refine tri_seq ?_
  refine tri_reg mixed hcx ?_ _ _
  refine bxs 10 rfl ?_
  refine nw 11 zeG ?_
  refine ⟨by kernel_rfl, ?_⟩
  refine nx (sl 1 rfl (sl 2 rfl sn)) (el 10 rfl (el 11 rfl en)) ?_
  refine tri_seq ?_
  refine tri_reg mixed hcx ?_ _ _
  refine asg rfl ?_
  refine ⟨by kernel_rfl, ?_⟩
  refine nx (sl 1 rfl (sl 2 rfl (sl 3 rfl sn))) (el 10 rfl (el 11 rfl en)) ?_
  refine tri_seq ?_
  refine tri_as 3 (Z := T.fn 206 []) rfl fnc_le ?_
  refine tri_reg mixed hcx ?_ _ _
  refine mv rfl ?_
  refine fa rfl fD 0 ?_
  refine ld rfl rfl tyZs rfl ?_
  refine cf rfl rfl (f_own hD hk) (by intro a w; kernel_rfl) ?_
  refine bu stG rfl ?_
  refine nw 215 zeG ?_
  refine sts rfl rfl rfl tyG rfl ?_
  refine ⟨by kernel_rfl, ?_⟩
  refine nx (sl 1 rfl (sl 2 rfl (sl 3 rfl (sl 4 rfl sn)))) (el 10 rfl (el 11 rfl (el 215 rfl en))) ?_
  refine tri_seq ?_
  refine tri_seq ?_
  refine tri_nilb (cL (cZ k)) 22 (bl := [T.l (cZ k) D, T.c (.slice none 0 0)]) (bl' := [T.l (cZ k) D, T.o 9]) 215 9 rfl ⟨.inl ⟨rfl, by show 9 ∉ []; decide⟩, .inr ⟨rfl, rfl⟩, trivial⟩ (by rw [hcx]; kernel_rfl) ?_
  refine tri_reg mixed hcx ?_ _ _
  refine fa rfl fL 1 ?_
  refine ld rfl rfl tyZss rfl ?_
  refine ln slZss rfl ?_
  refine mv rfl ?_
  refine ⟨by kernel_rfl, ?_⟩
  refine nx (sl 2 rfl (sl 3 rfl (sl 4 rfl (sl 13 rfl (sl 14 rfl (sl 15 rfl sn)))))) (el 10 rfl (el 11 rfl (el 215 rfl (el 9 rfl en)))) ?_
  refine tri_block ?_
  refine tri_loop (ι := Nat) (fun i => [(2, T.p 11 0), (3, T.fn 206 []), (4, T.p 215 0), (13, T.l (cL (cZi k)) L), (14, T.c (.int .i64 (L.length : Int))), (15, T.c (.int .i64 (i : Int)))]) (fun i => [(11, some (Ent.box 25 [T.c (.slice none 0 0), T.c (.slice none 0 0)])), (215, some (Ent.box 25 [T.l (cZ k) D, T.o 9])), (9, some (Ent.row (cL (cZ k)) 22 (L.take i)))]) (fun i => L.length - i) (fun i => (i ≤ L.length)) 0 (Nat.zero_le _) (sl 2 rfl (sl 3 rfl (sl 4 rfl (sl 13 rfl (sl 14 rfl (sl 15 rfl sn)))))) (el 11 rfl (el 215 rfl (el 9 rfl en))) ?_
  rintro i hi
  refine tri_sub (sl 2 rfl (sl 3 rfl (sl 4 rfl (sl 13 rfl (sl 14 rfl (sl 15 rfl sn)))))) (el 11 rfl (el 215 rfl (el 9 rfl en))) ?_
  have htk : (L.take i).length = i := by rw [List.length_take]; omega
  refine tri_seq ?_
  refine tri_reg mixed hcx ?_ _ _
  refine clt rfl rfl rfl ?_
  refine ⟨by kernel_rfl, ?_⟩
  refine nx (sl 2 rfl (sl 3 rfl (sl 4 rfl (sl 13 rfl (sl 14 rfl (sl 15 rfl (sl 16 rfl sn))))))) (el 11 rfl (el 215 rfl (el 9 rfl en))) ?_
  refine tri_seq ?_
  refine tri_if rfl (fun hc => ?_) (fun hc => ?_)
  · have hc2 : i < L.length := by omega
    have hlr := hLr i hc2
    refine tri_skip ?_
    refine nx (sl 2 rfl (sl 3 rfl (sl 4 rfl (sl 13 rfl (sl 14 rfl (sl 15 rfl sn)))))) (el 11 rfl (el 215 rfl (el 9 rfl en))) ?_
    refine tri_seq ?_
    refine tri_block ?_
    refine tri_seq ?_
    refine tri_reg mixed hcx ?_ _ _
    refine ix rfl rfl slZss ⟨rfl, by omega⟩ ?_
    refine lf rfl tyZs ?_
    refine asg rfl ?_
    refine ⟨by kernel_rfl, ?_⟩
    refine nx (sl 2 rfl (sl 3 rfl (sl 4 rfl (sl 6 rfl (sl 13 rfl (sl 14 rfl (sl 15 rfl sn))))))) (el 11 rfl (el 215 rfl (el 9 rfl en))) ?_
    refine tri_reg mixed hcx ?_ _ _
    refine fa rfl fL 1 ?_
    refine ld rfl rfl tyZss rfl ?_
    refine mv rfl ?_
    refine mv rfl ?_
    refine cf rfl rfl (f_own hlr hk) (by intro a w; kernel_rfl) ?_
    refine bs (c := cL (cZ k)) (xs := [L.getD i (cL (cZi k)).dflt]) slZss rfl ⟨.refl _, trivial⟩ ?_
    refine ap 616 rfl rfl rfl slZss (by simp only [List.length_cons, List.length_nil]; omega) (by decide) ?_
    refine fa rfl fL 1 ?_
    refine st rfl rfl rfl tyZss rfl ?_
    refine ⟨by kernel_rfl, ?_⟩
    refine pn_blk ?_
    refine nx (sl 2 rfl (sl 3 rfl (sl 4 rfl (sl 13 rfl (sl 14 rfl (sl 15 rfl sn)))))) (el 11 rfl (el 215 rfl (el 616 rfl en))) ?_
    refine tri_reg mixed hcx ?_ _ _
    refine ad (((i + 1 : Nat) : Int)) rfl rfl rfl (by omega) ?_
    refine mv rfl ?_
    refine ⟨by kernel_rfl, ?_⟩
    refine pn_sub (sl 2 rfl (sl 3 rfl (sl 4 rfl (sl 13 rfl (sl 14 rfl (sl 15 rfl sn)))))) (el 11 rfl (el 215 rfl (el 616 rfl en))) ?_
    refine pn_renb (bl := [T.l (cZ k) D, T.o 616]) (bl' := [T.l (cZ k) D, T.o 9]) 215 9 616 rfl rfl ⟨.inl ⟨rfl, by show 9 ∉ []; decide⟩, .inr ⟨rfl, rfl⟩, trivial⟩ (by rw [hcx]; kernel_rfl) rfl ?_
    exact pn_back (i + 1) (by first | omega | (dsimp only; omega)) (by omega) (sl 2 rfl (sl 3 rfl (sl 4 rfl (sl 13 rfl (sl 14 rfl (sl 15 rfl sn)))))) (el 11 rfl (el 215 rfl (ew 9 rfl (.of (by rw [show (cL (cZi k)).dflt = [] from rfl, take_snoc hc2])) en)))
  · refine tri_exit ?_
    repeat (first | refine pn_then ?_ | refine pn_oth (by decide) ?_)
    refine pn_ex ?_
    have hin : i = L.length := by omega
    refine nx (sl 2 rfl (sl 4 rfl sn)) (el 11 rfl (el 215 rfl (el 9 rfl en))) ?_
    refine tri_seq ?_
    refine tri_fz 9 rfl ?_
    refine tri_rdb (bl := [T.l (cZ k) D, T.o 9]) (bl' := [T.l (cZ k) D, T.l (cL (cZ k)) (L.take i)]) 215 9 rfl rfl ⟨.inl rfl, .inr ⟨rfl, rfl⟩, trivial⟩ ?_
    refine tri_reg mixed hcx ?_ _ _
    refine ld rfl rfl tyG rfl ?_
    refine st rfl rfl rfl tyG rfl ?_
    refine ⟨by kernel_rfl, ?_⟩
    refine nx (sl 2 rfl sn) (el 11 rfl (el 215 rfl en)) ?_
    refine tri_ret ?_
    repeat (first | refine pn_thenr ?_ | refine pn_blkr ?_)
    exact ret1 hcx rfl (rv_cell (c' := cx) (n := 0) rfl rfl tyG rfl) (st_le (l := [T.l (cZ k) D, T.l (cL (cZ k)) (L.take i)]) (l' := [T.l (cZ k) D, T.l (cL (cZ k)) L]) ⟨.refl _, .of (by rw [hin, List.take_length]), trivial⟩) en

/-- The target's coefficients, one for each row. -/
def tvA (ts : List (Int × Int)) (n : Nat) : List Rat := (List.range n).map fun j => ((ts.getD j (0, 0)).1 : Rat) / ((ts.getD j (0, 0)).2 : Rat)
theorem tvA_succ {ts : List (Int × Int)} {n : Nat} : tvA ts n ++ [((ts.getD n (0, 0)).1 : Rat) / ((ts.getD n (0, 0)).2 : Rat)] = tvA ts (n + 1) := by simp [tvA, List.range_succ]
theorem tvA_len {ts : List (Int × Int)} {n : Nat} : (tvA ts n).length = n := by simp [tvA]
def tvL (ts : List (Int × Int)) (n : Nat) : List Rat := tvA ts ts.length ++ List.replicate (n - ts.length) 0
theorem rep_succ {α : Type} {A : List α} {z : α} {j : Nat} : (A ++ List.replicate j z) ++ [z] = A ++ List.replicate (j + 1) z := by rw [List.append_assoc, List.replicate_succ']
theorem tvL_at {ts : List (Int × Int)} {n j : Nat} (h : ts.length = 0 ∨ ts.length = n) (hj : j < n) : (tvL ts n).getD j 0 = aqT ts j := by
  unfold tvL aqT
  rcases h with h | h
  · rw [if_pos h, h, List.getD_eq_getElem?_getD, List.getElem?_append_right (by rw [tvA_len]; omega), tvA_len, List.getElem?_replicate]
    split <;> rfl
  · rw [if_neg (by omega), List.getD_eq_getElem?_getD, List.getElem?_append_left (by rw [tvA_len]; omega), ← List.getD_eq_getElem?_getD]
    exact rng_at (by omega)

theorem f_posed {D : List Int} {L : List (List Int)} {ts : List (Int × Int)} {k n : Nat} (hG : GoodP D L) (hLn : L.length = n) (hn : n ≤ 1048575) (htl : ts.length = 0 ∨ ts.length = n) (htp : ∀ i, i < ts.length → 0 < (ts.getD i (0, 0)).2) (hk : k ≤ 1048576) : Fn Tryz.prog 122 [T.G D L k, T.l (cQi k) ts] [] [] [] (T.tup [T.fp (T.st [T.st [T.l (cZ k) D, T.l (cL (cZ k)) L], T.l (cQ (k + k + 2)) (tvL ts n), T.c (.int .i64 (n : Int))]), T.c (.int .i64 0)]) := by
  refine fn_of Tryz.func122 rfl (by show 2 ≤ 90; decide) fun cx hcx => ?_
  refine tri_sub (sl 0 rfl (sl 1 rfl sn)) en ?_
  have hDL := hG.2.1
  have hLr : ∀ i, i < L.length → (L.getD i []).length ≤ 1048576 := fun i hi => by rw [(hG.2.2.2 i hi).1]; omega
  have h0n := hG.1
  refine tri_seq ?_
  refine tri_reg mixed hcx ?_ _ _
  refine bxs 10 rfl ?_
  refine asg rfl ?_
  refine asg rfl ?_
  refine ⟨by kernel_rfl, ?_⟩
  refine nx (sl 1 rfl (sl 2 rfl sn)) (el 10 rfl en) ?_
  refine tri_seq ?_
  refine tri_seq ?_
  refine tri_reg mixed hcx ?_ _ _
  refine ld rfl rfl tyG rfl ?_
  refine ca rfl (h := g_Star (k := k) (i := 0) (by omega) (by omega) hG hG.1) (hn := ?_)
  refine mv rfl ?_
  refine ex rfl rfl ?_
  refine ex rfl rfl ?_
  refine nw 115 zeQ ?_
  refine st rfl rfl rfl tyQ rfl ?_
  refine asg rfl ?_
  refine ⟨by kernel_rfl, ?_⟩
  refine nx (sl 1 rfl (sl 2 rfl (sl 7 rfl sn))) (el 10 rfl (el 115 rfl en)) ?_
  refine tri_seq ?_
  refine tri_reg mixed hcx ?_ _ _
  refine mv rfl ?_
  refine cne rfl rfl (decide_eq_false (by omega)) ?_
  refine ⟨by kernel_rfl, ?_⟩
  refine nx (sl 1 rfl (sl 2 rfl (sl 20 rfl sn))) (el 10 rfl (el 115 rfl en)) ?_
  refine tri_false rfl rfl ?_
  refine tri_skip ?_
  refine nx (sl 1 rfl (sl 2 rfl sn)) (el 10 rfl (el 115 rfl en)) ?_
  refine tri_seq ?_
  refine tri_reg mixed hcx ?_ _ _
  refine fa rfl fL 1 ?_
  refine ld rfl rfl tyZss rfl ?_
  refine ln slZss rfl ?_
  refine asg rfl ?_
  refine ⟨by kernel_rfl, ?_⟩
  refine nx (sl 1 rfl (sl 2 rfl (sl 8 rfl sn))) (el 10 rfl (el 115 rfl en)) ?_
  refine tri_seq ?_
  refine tri_seq ?_
  rcases htl with htl | htl
  · refine tri_reg mixed hcx ?_ _ _
    refine mv rfl ?_
    refine ln slQs rfl ?_
    refine cne rfl rfl (decide_eq_false (by omega)) ?_
    refine mv rfl ?_
    refine j_off rfl rfl rfl rfl ?_
    refine j_off rfl rfl rfl rfl ?_
    refine j_off rfl rfl rfl rfl ?_
    refine j_off rfl rfl rfl rfl ?_
    refine pk rfl rfl ?_
    refine ⟨by kernel_rfl, ?_⟩
    refine nx (sl 1 rfl (sl 2 rfl (sl 8 rfl (sl 32 rfl sn)))) (el 10 rfl (el 115 rfl en)) ?_
    refine tri_false rfl rfl ?_
    refine tri_skip ?_
    refine nx (sl 1 rfl (sl 2 rfl (sl 8 rfl sn))) (el 10 rfl (el 115 rfl en)) ?_
    refine tri_seq ?_
    refine tri_reg mixed hcx ?_ _ _
    refine ld rfl rfl tyG rfl ?_
    refine ca rfl (h := f_copied (k := k) (by omega) (by omega) hLr (by omega)) (hn := ?_)
    refine mv rfl ?_
    refine bu stPb rfl ?_
    refine bxs 714 rfl ?_
    refine asg rfl ?_
    refine ⟨by kernel_rfl, ?_⟩
    refine nx (sl 1 rfl (sl 8 rfl (sl 9 rfl sn))) (el 10 rfl (el 115 rfl (el 714 rfl en))) ?_
    refine tri_seq ?_
    refine tri_seq ?_
    refine tri_nilb (cQ (k + k + 2)) 31 (bl := [T.st [T.l (cZ k) D, T.l (cL (cZ k)) L], T.c (.slice none 0 0), T.c (.int .i64 (L.length : Int))]) (bl' := [T.st [T.l (cZ k) D, T.l (cL (cZ k)) L], T.o 9, T.c (.int .i64 (L.length : Int))]) 714 9 rfl ⟨.inl ⟨rfl, by show 9 ∉ []; decide⟩, .inr ⟨rfl, rfl⟩, .inl ⟨rfl, by show 9 ∉ []; decide⟩, trivial⟩ (by rw [hcx]; kernel_rfl) ?_
    refine tri_reg mixed hcx ?_ _ _
    refine mv rfl ?_
    refine ln slQs rfl ?_
    refine mv rfl ?_
    refine ⟨by kernel_rfl, ?_⟩
    refine nx (sl 8 rfl (sl 9 rfl (sl 38 rfl (sl 39 rfl (sl 40 rfl sn))))) (el 10 rfl (el 115 rfl (el 714 rfl (el 9 rfl en)))) ?_
    refine tri_block ?_
    refine tri_loop (ι := Nat) (fun i => [(8, T.c (.int .i64 (L.length : Int))), (9, T.p 714 0), (38, T.l (cQi k) ts), (39, T.c (.int .i64 (ts.length : Int))), (40, T.c (.int .i64 (i : Int)))]) (fun i => [(714, some (Ent.box 133 [T.st [T.l (cZ k) D, T.l (cL (cZ k)) L], T.o 9, T.c (.int .i64 (L.length : Int))])), (9, some (Ent.row (cQ (k + k + 2)) 31 (tvA ts i)))]) (fun i => ts.length - i) (fun i => (i ≤ ts.length)) 0 (Nat.zero_le _) (sl 8 rfl (sl 9 rfl (sl 38 rfl (sl 39 rfl (sl 40 rfl sn))))) (el 714 rfl (el 9 rfl en)) ?_
    rintro i hi
    refine tri_sub (sl 8 rfl (sl 9 rfl (sl 38 rfl (sl 39 rfl (sl 40 rfl sn))))) (el 714 rfl (el 9 rfl en)) ?_
    have htk := @tvA_len ts i
    refine tri_seq ?_
    refine tri_reg mixed hcx ?_ _ _
    refine clt rfl rfl rfl ?_
    refine ⟨by kernel_rfl, ?_⟩
    refine nx (sl 8 rfl (sl 9 rfl (sl 38 rfl (sl 39 rfl (sl 40 rfl (sl 41 rfl sn)))))) (el 714 rfl (el 9 rfl en)) ?_
    refine tri_seq ?_
    refine tri_if rfl (fun hc => ?_) (fun hc => ?_)
    · have hte : 0 < (ts.getD i (cQi k).dflt).2 := htp i (by omega)
      have hne : (ts.getD i (cQi k).dflt).2 ≠ 0 := by omega
      have hsg : sg (ts.getD i (cQi k).dflt).2 = 1 := sg_pos hte
      refine tri_skip ?_
      refine nx (sl 8 rfl (sl 9 rfl (sl 38 rfl (sl 39 rfl (sl 40 rfl sn))))) (el 714 rfl (el 9 rfl en)) ?_
      refine tri_seq ?_
      refine tri_block ?_
      refine tri_seq ?_
      refine tri_reg mixed hcx ?_ _ _
      refine ix rfl rfl slQs ⟨rfl, by omega⟩ ?_
      refine lf rfl tyQ ?_
      refine nw 1012 zeQ ?_
      refine sts (zz := [T.Zi (ts.getD i (cQi k).dflt).1 k, T.Zi (ts.getD i (cQi k).dflt).2 k]) rfl rfl rfl tyQ rfl ?_
      refine ⟨by kernel_rfl, ?_⟩
      refine nx (sl 8 rfl (sl 9 rfl (sl 11 rfl (sl 38 rfl (sl 39 rfl (sl 40 rfl sn)))))) (el 714 rfl (el 9 rfl (el 1012 rfl en))) ?_
      refine tri_seq ?_
      refine tri_reg mixed hcx ?_ _ _
      refine fa rfl fNum 0 ?_
      refine ld rfl rfl tyZ rfl ?_
      refine fa rfl fDen 2 ?_
      refine ld rfl rfl tyZ rfl ?_
      refine ca rfl (h := rat_Make hne (by omega) (by omega)) (hn := ?_)
      refine mv rfl ?_
      refine ex rfl rfl ?_
      refine ex rfl rfl ?_
      refine nw 1118 zeQ ?_
      refine st rfl rfl rfl tyQ rfl ?_
      refine asg rfl ?_
      refine ⟨by kernel_rfl, ?_⟩
      refine nx (sl 8 rfl (sl 9 rfl (sl 11 rfl (sl 12 rfl (sl 13 rfl (sl 38 rfl (sl 39 rfl (sl 40 rfl sn)))))))) (el 714 rfl (el 9 rfl (el 1012 rfl (el 1118 rfl en)))) ?_
      refine tri_seq ?_
      refine tri_seq ?_
      refine tri_reg mixed hcx ?_ _ _
      refine mv rfl ?_
      refine cne rfl rfl (decide_eq_false (by omega)) ?_
      refine mv rfl ?_
      refine fa rfl fDen 2 ?_ (hg := gd1)
      refine ld rfl rfl tyZ rfl ?_ (hg := gd1)
      refine ca rfl (h := zi_Sign (by omega)) (hn := ?_) (hg := gd1)
      refine cle rfl rfl (decide_eq_false (by omega)) ?_ (hg := gd1)
      refine pk rfl rfl ?_
      refine ⟨by kernel_rfl, ?_⟩
      refine nx (sl 8 rfl (sl 9 rfl (sl 12 rfl (sl 38 rfl (sl 39 rfl (sl 40 rfl (sl 59 rfl sn))))))) (el 714 rfl (el 9 rfl (el 1012 rfl (el 1118 rfl en)))) ?_
      refine tri_false rfl rfl ?_
      refine tri_skip ?_
      refine nx (sl 8 rfl (sl 9 rfl (sl 12 rfl (sl 38 rfl (sl 39 rfl (sl 40 rfl sn)))))) (el 714 rfl (el 9 rfl (el 1012 rfl (el 1118 rfl en)))) ?_
      refine tri_reg mixed hcx ?_ _ _
      refine mv rfl ?_
      refine mv rfl ?_
      refine nk rfl ?_
      refine fa rfl fPt 2 ?_
      refine ld rfl rfl tyQs rfl ?_
      refine ld rfl rfl tyQ rfl ?_
      refine bs (c := cQ (k + k + 2)) (xs := [((ts.getD i (0, 0)).1 : Rat) / ((ts.getD i (0, 0)).2 : Rat)]) slQs rfl ⟨q_eq rfl (by omega), trivial⟩ ?_
      refine ap 1417 rfl rfl rfl slQs (by simp only [List.length_cons, List.length_nil]; omega) (by decide) ?_
      refine nk rfl ?_
      refine fa rfl fPt 2 ?_
      refine st rfl rfl rfl tyQs rfl ?_
      refine ⟨by kernel_rfl, ?_⟩
      refine pn_blk ?_
      refine nx (sl 8 rfl (sl 9 rfl (sl 38 rfl (sl 39 rfl (sl 40 rfl sn))))) (el 714 rfl (el 1012 rfl (el 1118 rfl (el 1417 rfl en)))) ?_
      refine tri_reg mixed hcx ?_ _ _
      refine ad (((i + 1 : Nat) : Int)) rfl rfl rfl (by omega) ?_
      refine mv rfl ?_
      refine ⟨by kernel_rfl, ?_⟩
      refine pn_sub (sl 8 rfl (sl 9 rfl (sl 38 rfl (sl 39 rfl (sl 40 rfl sn))))) (el 714 rfl (el 1417 rfl en)) ?_
      refine pn_renb (bl := [T.st [T.l (cZ k) D, T.l (cL (cZ k)) L], T.o 1417, T.c (.int .i64 (L.length : Int))]) (bl' := [T.st [T.l (cZ k) D, T.l (cL (cZ k)) L], T.o 9, T.c (.int .i64 (L.length : Int))]) 714 9 1417 rfl rfl ⟨.inl ⟨rfl, by show 9 ∉ []; decide⟩, .inr ⟨rfl, rfl⟩, .inl ⟨rfl, by show 9 ∉ []; decide⟩, trivial⟩ (by rw [hcx]; kernel_rfl) rfl ?_
      exact pn_back (i + 1) (by first | omega | (dsimp only; omega)) (by omega) (sl 8 rfl (sl 9 rfl (sl 38 rfl (sl 39 rfl (sl 40 rfl sn))))) (el 714 rfl (ew 9 rfl (.of (by rw [tvA_succ])) en))
    · refine tri_exit ?_
      repeat (first | refine pn_then ?_ | refine pn_oth (by decide) ?_)
      refine pn_ex ?_
      have hin : i = ts.length := by omega
      refine nx (sl 8 rfl (sl 9 rfl sn)) (el 714 rfl (el 9 rfl en)) ?_
      refine tri_seq ?_
      refine tri_block ?_
      refine tri_loop (ι := Nat) (fun i => [(8, T.c (.int .i64 (L.length : Int))), (9, T.p 714 0)]) (fun i => [(714, some (Ent.box 133 [T.st [T.l (cZ k) D, T.l (cL (cZ k)) L], T.o 9, T.c (.int .i64 (L.length : Int))])), (9, some (Ent.row (cQ (k + k + 2)) 31 (tvA ts ts.length ++ List.replicate i 0)))]) (fun i => n - ts.length - i) (fun i => (i ≤ n - ts.length)) 0 (Nat.zero_le _) (sl 8 rfl (sl 9 rfl sn)) (el 714 rfl (ew 9 rfl (.of (by rw [hin, List.replicate_zero, List.append_nil])) en)) ?_
      rintro i hi2
      refine tri_sub (sl 8 rfl (sl 9 rfl sn)) (el 714 rfl (el 9 rfl en)) ?_
      have htk2 : (tvA ts ts.length ++ List.replicate i 0).length = ts.length + i := by rw [List.length_append, tvA_len, List.length_replicate]
      refine tri_seq ?_
      refine tri_seq ?_
      refine tri_reg mixed hcx ?_ _ _
      refine mv rfl ?_
      refine nk rfl ?_
      refine fa rfl fPt 2 ?_
      refine ld rfl rfl tyQs rfl ?_
      refine lno slQs rfl rfl ?_
      refine mv rfl ?_
      refine clt rfl rfl rfl ?_
      refine ⟨by kernel_rfl, ?_⟩
      refine nx (sl 8 rfl (sl 9 rfl (sl 77 rfl sn))) (el 714 rfl (el 9 rfl en)) ?_
      refine tri_if rfl (fun hd => ?_) (fun hd => ?_)
      · refine tri_skip ?_
        refine nx (sl 8 rfl (sl 9 rfl sn)) (el 714 rfl (el 9 rfl en)) ?_
        refine tri_block ?_
        refine tri_reg mixed hcx ?_ _ _
        refine mv rfl ?_
        refine mv rfl ?_
        refine nk rfl ?_
        refine fa rfl fPt 2 ?_
        refine ld rfl rfl tyQs rfl ?_
        refine bu stZ rfl ?_
        refine ca rfl (h := rat_Of (by omega)) (hn := ?_)
        refine bs (c := cQ (k + k + 2)) (xs := [(0 : Rat)]) slQs rfl ⟨q_eq rfl (by omega), trivial⟩ ?_
        refine ap 1718 rfl rfl rfl slQs (by simp only [List.length_cons, List.length_nil]; omega) (by decide) ?_
        refine nk rfl ?_
        refine fa rfl fPt 2 ?_
        refine st rfl rfl rfl tyQs rfl ?_
        refine ⟨by kernel_rfl, ?_⟩
        refine pn_blk ?_
        refine pn_sub (sl 8 rfl (sl 9 rfl sn)) (el 714 rfl (el 1718 rfl en)) ?_
        refine pn_renb (bl := [T.st [T.l (cZ k) D, T.l (cL (cZ k)) L], T.o 1718, T.c (.int .i64 (L.length : Int))]) (bl' := [T.st [T.l (cZ k) D, T.l (cL (cZ k)) L], T.o 9, T.c (.int .i64 (L.length : Int))]) 714 9 1718 rfl rfl ⟨.inl ⟨rfl, by show 9 ∉ []; decide⟩, .inr ⟨rfl, rfl⟩, .inl ⟨rfl, by show 9 ∉ []; decide⟩, trivial⟩ (by rw [hcx]; kernel_rfl) rfl ?_
        exact pn_back (i + 1) (by first | omega | (dsimp only; omega)) (by omega) (sl 8 rfl (sl 9 rfl sn)) (el 714 rfl (ew 9 rfl (.of (by rw [rep_succ])) en))
      · refine tri_exit ?_
        repeat (first | refine pn_then ?_ | refine pn_oth (by decide) ?_)
        refine pn_ex ?_
        have hin2 : i = n - ts.length := by omega
        refine nx (sl 9 rfl sn) (el 714 rfl (el 9 rfl en)) ?_
        refine tri_seq ?_
        refine tri_reg mixed hcx ?_ _ _
        refine mv rfl ?_
        refine asg rfl ?_
        refine asg rfl ?_
        refine ⟨by kernel_rfl, ?_⟩
        refine nx (sl 4 rfl (sl 5 rfl sn)) (el 714 rfl (el 9 rfl en)) ?_
        refine tri_fz 9 rfl ?_
        refine tri_rdb (bl := [T.st [T.l (cZ k) D, T.l (cL (cZ k)) L], T.o 9, T.c (.int .i64 (L.length : Int))]) (bl' := [T.st [T.l (cZ k) D, T.l (cL (cZ k)) L], T.l (cQ (k + k + 2)) (tvA ts ts.length ++ List.replicate i 0), T.c (.int .i64 (L.length : Int))]) 714 9 rfl rfl ⟨.inl rfl, .inr ⟨rfl, rfl⟩, .inl rfl, trivial⟩ ?_
        refine tri_fzb 4 714 rfl rfl (by show (4 : Nat) ≠ 0; decide) ?_
        refine tri_ret ?_
        repeat (first | refine pn_thenr ?_ | refine pn_blkr ?_)
        exact ret2 hcx rfl (rv_tmp rfl) (rv_tmp rfl) (tup_le ⟨.of (by rw [hin2, hLn]; rfl), .refl _, trivial⟩) en
  · have htz : ts.length ≠ 0 := by omega
    refine tri_reg mixed hcx ?_ _ _
    refine mv rfl ?_
    refine ln slQs rfl ?_
    refine cne rfl rfl (decide_eq_true (by omega)) ?_
    refine mv rfl ?_
    refine mv rfl ?_ (hg := gd1)
    refine ln slQs rfl ?_ (hg := gd1)
    refine mv rfl ?_ (hg := gd1)
    refine cne rfl rfl (decide_eq_false (by omega)) ?_ (hg := gd1)
    refine pk rfl rfl ?_
    refine ⟨by kernel_rfl, ?_⟩
    refine nx (sl 1 rfl (sl 2 rfl (sl 8 rfl (sl 32 rfl sn)))) (el 10 rfl (el 115 rfl en)) ?_
    refine tri_false rfl rfl ?_
    refine tri_skip ?_
    refine nx (sl 1 rfl (sl 2 rfl (sl 8 rfl sn))) (el 10 rfl (el 115 rfl en)) ?_
    refine tri_seq ?_
    refine tri_reg mixed hcx ?_ _ _
    refine ld rfl rfl tyG rfl ?_
    refine ca rfl (h := f_copied (k := k) (by omega) (by omega) hLr (by omega)) (hn := ?_)
    refine mv rfl ?_
    refine bu stPb rfl ?_
    refine bxs 714 rfl ?_
    refine asg rfl ?_
    refine ⟨by kernel_rfl, ?_⟩
    refine nx (sl 1 rfl (sl 8 rfl (sl 9 rfl sn))) (el 10 rfl (el 115 rfl (el 714 rfl en))) ?_
    refine tri_seq ?_
    refine tri_seq ?_
    refine tri_nilb (cQ (k + k + 2)) 31 (bl := [T.st [T.l (cZ k) D, T.l (cL (cZ k)) L], T.c (.slice none 0 0), T.c (.int .i64 (L.length : Int))]) (bl' := [T.st [T.l (cZ k) D, T.l (cL (cZ k)) L], T.o 9, T.c (.int .i64 (L.length : Int))]) 714 9 rfl ⟨.inl ⟨rfl, by show 9 ∉ []; decide⟩, .inr ⟨rfl, rfl⟩, .inl ⟨rfl, by show 9 ∉ []; decide⟩, trivial⟩ (by rw [hcx]; kernel_rfl) ?_
    refine tri_reg mixed hcx ?_ _ _
    refine mv rfl ?_
    refine ln slQs rfl ?_
    refine mv rfl ?_
    refine ⟨by kernel_rfl, ?_⟩
    refine nx (sl 8 rfl (sl 9 rfl (sl 38 rfl (sl 39 rfl (sl 40 rfl sn))))) (el 10 rfl (el 115 rfl (el 714 rfl (el 9 rfl en)))) ?_
    refine tri_block ?_
    refine tri_loop (ι := Nat) (fun i => [(8, T.c (.int .i64 (L.length : Int))), (9, T.p 714 0), (38, T.l (cQi k) ts), (39, T.c (.int .i64 (ts.length : Int))), (40, T.c (.int .i64 (i : Int)))]) (fun i => [(714, some (Ent.box 133 [T.st [T.l (cZ k) D, T.l (cL (cZ k)) L], T.o 9, T.c (.int .i64 (L.length : Int))])), (9, some (Ent.row (cQ (k + k + 2)) 31 (tvA ts i)))]) (fun i => ts.length - i) (fun i => (i ≤ ts.length)) 0 (Nat.zero_le _) (sl 8 rfl (sl 9 rfl (sl 38 rfl (sl 39 rfl (sl 40 rfl sn))))) (el 714 rfl (el 9 rfl en)) ?_
    rintro i hi
    refine tri_sub (sl 8 rfl (sl 9 rfl (sl 38 rfl (sl 39 rfl (sl 40 rfl sn))))) (el 714 rfl (el 9 rfl en)) ?_
    have htk := @tvA_len ts i
    refine tri_seq ?_
    refine tri_reg mixed hcx ?_ _ _
    refine clt rfl rfl rfl ?_
    refine ⟨by kernel_rfl, ?_⟩
    refine nx (sl 8 rfl (sl 9 rfl (sl 38 rfl (sl 39 rfl (sl 40 rfl (sl 41 rfl sn)))))) (el 714 rfl (el 9 rfl en)) ?_
    refine tri_seq ?_
    refine tri_if rfl (fun hc => ?_) (fun hc => ?_)
    · have hte : 0 < (ts.getD i (cQi k).dflt).2 := htp i (by omega)
      have hne : (ts.getD i (cQi k).dflt).2 ≠ 0 := by omega
      have hsg : sg (ts.getD i (cQi k).dflt).2 = 1 := sg_pos hte
      refine tri_skip ?_
      refine nx (sl 8 rfl (sl 9 rfl (sl 38 rfl (sl 39 rfl (sl 40 rfl sn))))) (el 714 rfl (el 9 rfl en)) ?_
      refine tri_seq ?_
      refine tri_block ?_
      refine tri_seq ?_
      refine tri_reg mixed hcx ?_ _ _
      refine ix rfl rfl slQs ⟨rfl, by omega⟩ ?_
      refine lf rfl tyQ ?_
      refine nw 1012 zeQ ?_
      refine sts (zz := [T.Zi (ts.getD i (cQi k).dflt).1 k, T.Zi (ts.getD i (cQi k).dflt).2 k]) rfl rfl rfl tyQ rfl ?_
      refine ⟨by kernel_rfl, ?_⟩
      refine nx (sl 8 rfl (sl 9 rfl (sl 11 rfl (sl 38 rfl (sl 39 rfl (sl 40 rfl sn)))))) (el 714 rfl (el 9 rfl (el 1012 rfl en))) ?_
      refine tri_seq ?_
      refine tri_reg mixed hcx ?_ _ _
      refine fa rfl fNum 0 ?_
      refine ld rfl rfl tyZ rfl ?_
      refine fa rfl fDen 2 ?_
      refine ld rfl rfl tyZ rfl ?_
      refine ca rfl (h := rat_Make hne (by omega) (by omega)) (hn := ?_)
      refine mv rfl ?_
      refine ex rfl rfl ?_
      refine ex rfl rfl ?_
      refine nw 1118 zeQ ?_
      refine st rfl rfl rfl tyQ rfl ?_
      refine asg rfl ?_
      refine ⟨by kernel_rfl, ?_⟩
      refine nx (sl 8 rfl (sl 9 rfl (sl 11 rfl (sl 12 rfl (sl 13 rfl (sl 38 rfl (sl 39 rfl (sl 40 rfl sn)))))))) (el 714 rfl (el 9 rfl (el 1012 rfl (el 1118 rfl en)))) ?_
      refine tri_seq ?_
      refine tri_seq ?_
      refine tri_reg mixed hcx ?_ _ _
      refine mv rfl ?_
      refine cne rfl rfl (decide_eq_false (by omega)) ?_
      refine mv rfl ?_
      refine fa rfl fDen 2 ?_ (hg := gd1)
      refine ld rfl rfl tyZ rfl ?_ (hg := gd1)
      refine ca rfl (h := zi_Sign (by omega)) (hn := ?_) (hg := gd1)
      refine cle rfl rfl (decide_eq_false (by omega)) ?_ (hg := gd1)
      refine pk rfl rfl ?_
      refine ⟨by kernel_rfl, ?_⟩
      refine nx (sl 8 rfl (sl 9 rfl (sl 12 rfl (sl 38 rfl (sl 39 rfl (sl 40 rfl (sl 59 rfl sn))))))) (el 714 rfl (el 9 rfl (el 1012 rfl (el 1118 rfl en)))) ?_
      refine tri_false rfl rfl ?_
      refine tri_skip ?_
      refine nx (sl 8 rfl (sl 9 rfl (sl 12 rfl (sl 38 rfl (sl 39 rfl (sl 40 rfl sn)))))) (el 714 rfl (el 9 rfl (el 1012 rfl (el 1118 rfl en)))) ?_
      refine tri_reg mixed hcx ?_ _ _
      refine mv rfl ?_
      refine mv rfl ?_
      refine nk rfl ?_
      refine fa rfl fPt 2 ?_
      refine ld rfl rfl tyQs rfl ?_
      refine ld rfl rfl tyQ rfl ?_
      refine bs (c := cQ (k + k + 2)) (xs := [((ts.getD i (0, 0)).1 : Rat) / ((ts.getD i (0, 0)).2 : Rat)]) slQs rfl ⟨q_eq rfl (by omega), trivial⟩ ?_
      refine ap 1417 rfl rfl rfl slQs (by simp only [List.length_cons, List.length_nil]; omega) (by decide) ?_
      refine nk rfl ?_
      refine fa rfl fPt 2 ?_
      refine st rfl rfl rfl tyQs rfl ?_
      refine ⟨by kernel_rfl, ?_⟩
      refine pn_blk ?_
      refine nx (sl 8 rfl (sl 9 rfl (sl 38 rfl (sl 39 rfl (sl 40 rfl sn))))) (el 714 rfl (el 1012 rfl (el 1118 rfl (el 1417 rfl en)))) ?_
      refine tri_reg mixed hcx ?_ _ _
      refine ad (((i + 1 : Nat) : Int)) rfl rfl rfl (by omega) ?_
      refine mv rfl ?_
      refine ⟨by kernel_rfl, ?_⟩
      refine pn_sub (sl 8 rfl (sl 9 rfl (sl 38 rfl (sl 39 rfl (sl 40 rfl sn))))) (el 714 rfl (el 1417 rfl en)) ?_
      refine pn_renb (bl := [T.st [T.l (cZ k) D, T.l (cL (cZ k)) L], T.o 1417, T.c (.int .i64 (L.length : Int))]) (bl' := [T.st [T.l (cZ k) D, T.l (cL (cZ k)) L], T.o 9, T.c (.int .i64 (L.length : Int))]) 714 9 1417 rfl rfl ⟨.inl ⟨rfl, by show 9 ∉ []; decide⟩, .inr ⟨rfl, rfl⟩, .inl ⟨rfl, by show 9 ∉ []; decide⟩, trivial⟩ (by rw [hcx]; kernel_rfl) rfl ?_
      exact pn_back (i + 1) (by first | omega | (dsimp only; omega)) (by omega) (sl 8 rfl (sl 9 rfl (sl 38 rfl (sl 39 rfl (sl 40 rfl sn))))) (el 714 rfl (ew 9 rfl (.of (by rw [tvA_succ])) en))
    · refine tri_exit ?_
      repeat (first | refine pn_then ?_ | refine pn_oth (by decide) ?_)
      refine pn_ex ?_
      have hin : i = ts.length := by omega
      refine nx (sl 8 rfl (sl 9 rfl sn)) (el 714 rfl (el 9 rfl en)) ?_
      refine tri_seq ?_
      refine tri_block ?_
      refine tri_loop (ι := Nat) (fun i => [(8, T.c (.int .i64 (L.length : Int))), (9, T.p 714 0)]) (fun i => [(714, some (Ent.box 133 [T.st [T.l (cZ k) D, T.l (cL (cZ k)) L], T.o 9, T.c (.int .i64 (L.length : Int))])), (9, some (Ent.row (cQ (k + k + 2)) 31 (tvA ts ts.length ++ List.replicate i 0)))]) (fun i => n - ts.length - i) (fun i => (i ≤ n - ts.length)) 0 (Nat.zero_le _) (sl 8 rfl (sl 9 rfl sn)) (el 714 rfl (ew 9 rfl (.of (by rw [hin, List.replicate_zero, List.append_nil])) en)) ?_
      rintro i hi2
      refine tri_sub (sl 8 rfl (sl 9 rfl sn)) (el 714 rfl (el 9 rfl en)) ?_
      have htk2 : (tvA ts ts.length ++ List.replicate i 0).length = ts.length + i := by rw [List.length_append, tvA_len, List.length_replicate]
      refine tri_seq ?_
      refine tri_seq ?_
      refine tri_reg mixed hcx ?_ _ _
      refine mv rfl ?_
      refine nk rfl ?_
      refine fa rfl fPt 2 ?_
      refine ld rfl rfl tyQs rfl ?_
      refine lno slQs rfl rfl ?_
      refine mv rfl ?_
      refine clt rfl rfl rfl ?_
      refine ⟨by kernel_rfl, ?_⟩
      refine nx (sl 8 rfl (sl 9 rfl (sl 77 rfl sn))) (el 714 rfl (el 9 rfl en)) ?_
      refine tri_if rfl (fun hd => ?_) (fun hd => ?_)
      · refine tri_skip ?_
        refine nx (sl 8 rfl (sl 9 rfl sn)) (el 714 rfl (el 9 rfl en)) ?_
        refine tri_block ?_
        refine tri_reg mixed hcx ?_ _ _
        refine mv rfl ?_
        refine mv rfl ?_
        refine nk rfl ?_
        refine fa rfl fPt 2 ?_
        refine ld rfl rfl tyQs rfl ?_
        refine bu stZ rfl ?_
        refine ca rfl (h := rat_Of (by omega)) (hn := ?_)
        refine bs (c := cQ (k + k + 2)) (xs := [(0 : Rat)]) slQs rfl ⟨q_eq rfl (by omega), trivial⟩ ?_
        refine ap 1718 rfl rfl rfl slQs (by simp only [List.length_cons, List.length_nil]; omega) (by decide) ?_
        refine nk rfl ?_
        refine fa rfl fPt 2 ?_
        refine st rfl rfl rfl tyQs rfl ?_
        refine ⟨by kernel_rfl, ?_⟩
        refine pn_blk ?_
        refine pn_sub (sl 8 rfl (sl 9 rfl sn)) (el 714 rfl (el 1718 rfl en)) ?_
        refine pn_renb (bl := [T.st [T.l (cZ k) D, T.l (cL (cZ k)) L], T.o 1718, T.c (.int .i64 (L.length : Int))]) (bl' := [T.st [T.l (cZ k) D, T.l (cL (cZ k)) L], T.o 9, T.c (.int .i64 (L.length : Int))]) 714 9 1718 rfl rfl ⟨.inl ⟨rfl, by show 9 ∉ []; decide⟩, .inr ⟨rfl, rfl⟩, .inl ⟨rfl, by show 9 ∉ []; decide⟩, trivial⟩ (by rw [hcx]; kernel_rfl) rfl ?_
        exact pn_back (i + 1) (by first | omega | (dsimp only; omega)) (by omega) (sl 8 rfl (sl 9 rfl sn)) (el 714 rfl (ew 9 rfl (.of (by rw [rep_succ])) en))
      · refine tri_exit ?_
        repeat (first | refine pn_then ?_ | refine pn_oth (by decide) ?_)
        refine pn_ex ?_
        have hin2 : i = n - ts.length := by omega
        refine nx (sl 9 rfl sn) (el 714 rfl (el 9 rfl en)) ?_
        refine tri_seq ?_
        refine tri_reg mixed hcx ?_ _ _
        refine mv rfl ?_
        refine asg rfl ?_
        refine asg rfl ?_
        refine ⟨by kernel_rfl, ?_⟩
        refine nx (sl 4 rfl (sl 5 rfl sn)) (el 714 rfl (el 9 rfl en)) ?_
        refine tri_fz 9 rfl ?_
        refine tri_rdb (bl := [T.st [T.l (cZ k) D, T.l (cL (cZ k)) L], T.o 9, T.c (.int .i64 (L.length : Int))]) (bl' := [T.st [T.l (cZ k) D, T.l (cL (cZ k)) L], T.l (cQ (k + k + 2)) (tvA ts ts.length ++ List.replicate i 0), T.c (.int .i64 (L.length : Int))]) 714 9 rfl rfl ⟨.inl rfl, .inr ⟨rfl, rfl⟩, .inl rfl, trivial⟩ ?_
        refine tri_fzb 4 714 rfl rfl (by show (4 : Nat) ≠ 0; decide) ?_
        refine tri_ret ?_
        repeat (first | refine pn_thenr ?_ | refine pn_blkr ?_)
        exact ret2 hcx rfl (rv_tmp rfl) (rv_tmp rfl) (tup_le ⟨.of (by rw [hin2, hLn]; rfl), .refl _, trivial⟩) en

theorem f_asked {D : List Int} {L : List (List Int)} {ts : List (Int × Int)} {k n : Nat} (hG : GoodP D L) (hLn : L.length = n) (hn : n ≤ 1048575) (htl : ts.length = 0 ∨ ts.length = n) (htp : ∀ i, i < ts.length → 0 < (ts.getD i (0, 0)).2) (hk : k ≤ 1048576) {x : List Int} (hx : x.length ≤ n) : Fn Tryz.prog 60 [T.G D L k, T.l (cQi k) ts, T.l (cZi k) x] [] [] [] (T.tup [T.fp (T.st [T.st [T.l (cZ k) D, T.l (cL (cZ k)) L], T.l (cQ (k + k + 2)) (tvL ts n), T.c (.int .i64 (n : Int))]), T.c (.int .i64 0)]) := by
  refine fn_of Tryz.func60 rfl (by show 3 ≤ 37; decide) fun cx hcx => ?_
  refine tri_sub (sl 0 rfl (sl 1 rfl (sl 2 rfl sn))) en ?_
  refine tri_seq ?_
  refine tri_reg mixed hcx ?_ _ _
  refine bxs 10 rfl ?_
  refine asg rfl ?_
  refine asg rfl ?_
  refine ⟨by kernel_rfl, ?_⟩
  refine nx (sl 1 rfl (sl 2 rfl (sl 3 rfl sn))) (el 10 rfl en) ?_
  refine tri_seq ?_
  refine tri_reg mixed hcx ?_ _ _
  refine ld rfl rfl tyG rfl ?_
  refine mv rfl ?_
  refine ca rfl (h := f_posed hG hLn hn htl htp hk) (hn := ?_)
  refine mv rfl ?_
  refine ex rfl rfl ?_
  refine ex rfl rfl ?_
  refine asg rfl ?_
  refine asg rfl ?_
  refine ⟨by kernel_rfl, ?_⟩
  refine nx (sl 2 rfl (sl 3 rfl (sl 8 rfl (sl 9 rfl sn)))) (el 10 rfl en) ?_
  refine tri_seq ?_
  refine tri_seq ?_
  refine tri_reg mixed hcx ?_ _ _
  refine mv rfl ?_
  refine ceq rfl rfl (decide_eq_false (by omega)) ?_
  refine mv rfl ?_
  refine j_off rfl rfl rfl rfl ?_
  refine j_off rfl rfl rfl rfl ?_
  refine j_off rfl rfl rfl rfl ?_
  refine j_off rfl rfl rfl rfl ?_
  refine j_off rfl rfl rfl rfl ?_
  refine j_off rfl rfl rfl rfl ?_
  refine pk rfl rfl ?_
  refine ⟨by kernel_rfl, ?_⟩
  refine nx (sl 2 rfl (sl 8 rfl (sl 9 rfl (sl 25 rfl sn)))) (el 10 rfl en) ?_
  refine tri_false rfl rfl ?_
  refine tri_skip ?_
  refine nx (sl 2 rfl (sl 8 rfl (sl 9 rfl sn))) (el 10 rfl en) ?_
  refine tri_seq ?_
  refine tri_seq ?_
  refine tri_reg mixed hcx ?_ _ _
  refine mv rfl ?_
  refine cne rfl rfl (decide_eq_false (by omega)) ?_
  refine ⟨by kernel_rfl, ?_⟩
  refine nx (sl 2 rfl (sl 8 rfl (sl 9 rfl (sl 27 rfl sn)))) (el 10 rfl en) ?_
  refine tri_false rfl rfl ?_
  refine tri_skip ?_
  refine nx (sl 2 rfl (sl 8 rfl sn)) (el 10 rfl en) ?_
  refine tri_seq ?_
  refine tri_seq ?_
  refine tri_reg mixed hcx ?_ _ _
  refine mv rfl ?_
  refine ln slZs rfl ?_
  refine mv rfl ?_
  refine nk rfl ?_
  refine ff rfl fPn rfl ?_
  refine lf rfl tyI ?_
  refine cgt rfl rfl (decide_eq_false (by omega)) ?_
  refine ⟨by kernel_rfl, ?_⟩
  refine nx (sl 8 rfl (sl 35 rfl sn)) (el 10 rfl en) ?_
  refine tri_false rfl rfl ?_
  refine tri_skip ?_
  refine nx (sl 8 rfl sn) (el 10 rfl en) ?_
  refine tri_seq ?_
  refine tri_reg mixed hcx ?_ _ _
  refine mv rfl ?_
  refine asg rfl ?_
  refine asg rfl ?_
  refine ⟨by kernel_rfl, ?_⟩
  refine nx (sl 6 rfl (sl 7 rfl sn)) (el 10 rfl en) ?_
  refine tri_ret ?_
  repeat (first | refine pn_thenr ?_ | refine pn_blkr ?_)
  exact ret2 hcx rfl (rv_tmp rfl) (rv_tmp rfl) (.refl _) en

theorem f_add {x y : Rat} {k l : Nat} (hk : k ≤ 17179869184) (hl : l ≤ 17179869184) : Fn Tryz.prog 124 [T.V x k, T.V y l] [] [] [] (T.Q (x + y) (k + l + 1)) := by
  refine fn_of Tryz.func124 rfl (by show 2 ≤ 14; decide) fun cx hcx => ?_
  refine tri_sub (sl 0 rfl (sl 1 rfl sn)) en ?_
  refine tri_seq ?_
  refine tri_reg mixed hcx ?_ _ _
  refine bx 10 rfl ?_
  refine bx 11 rfl ?_
  refine nw 12 zeQ ?_
  refine ⟨by kernel_rfl, ?_⟩
  refine nx (sl 2 rfl (sl 3 rfl (sl 4 rfl sn))) (el 10 rfl (el 11 rfl (el 12 rfl en))) ?_
  refine tri_seq ?_
  refine tri_reg mixed hcx ?_ _ _
  refine ld rfl rfl tyQ rfl ?_
  refine ld rfl rfl tyQ rfl ?_
  refine cb rfl (h := rv_Add (by omega) (by omega)) (hn := ?_)
  refine mv rfl ?_
  refine ex rfl rfl ?_
  refine ex rfl rfl ?_
  refine nw 116 zeQ ?_
  refine st rfl rfl rfl tyQ rfl ?_
  refine asg rfl ?_
  refine ⟨by kernel_rfl, ?_⟩
  refine nx (sl 4 rfl (sl 5 rfl sn)) (el 10 rfl (el 11 rfl (el 12 rfl (el 116 rfl en)))) ?_
  refine tri_seq ?_
  refine tri_reg mixed hcx ?_ _ _
  refine ld rfl rfl tyQ rfl ?_
  refine st rfl rfl rfl tyQ rfl ?_
  refine ⟨by kernel_rfl, ?_⟩
  refine nx (sl 4 rfl sn) (el 10 rfl (el 11 rfl (el 12 rfl (el 116 rfl en)))) ?_
  refine tri_ret ?_
  repeat (first | refine pn_thenr ?_ | refine pn_blkr ?_)
  exact ret1 hcx rfl (rv_cell (c' := cx) (n := 0) rfl rfl tyQ rfl) (.refl _) en

theorem f_mul {x y : Rat} {k l : Nat} (hk : k ≤ 17179869184) (hl : l ≤ 17179869184) : Fn Tryz.prog 127 [T.V x k, T.V y l] [] [] [] (T.Q (x * y) (k + l)) := by
  refine fn_of Tryz.func127 rfl (by show 2 ≤ 14; decide) fun cx hcx => ?_
  refine tri_sub (sl 0 rfl (sl 1 rfl sn)) en ?_
  refine tri_seq ?_
  refine tri_reg mixed hcx ?_ _ _
  refine bx 10 rfl ?_
  refine bx 11 rfl ?_
  refine nw 12 zeQ ?_
  refine ⟨by kernel_rfl, ?_⟩
  refine nx (sl 2 rfl (sl 3 rfl (sl 4 rfl sn))) (el 10 rfl (el 11 rfl (el 12 rfl en))) ?_
  refine tri_seq ?_
  refine tri_reg mixed hcx ?_ _ _
  refine ld rfl rfl tyQ rfl ?_
  refine ld rfl rfl tyQ rfl ?_
  refine cb rfl (h := rv_Mul (by omega) (by omega)) (hn := ?_)
  refine mv rfl ?_
  refine ex rfl rfl ?_
  refine ex rfl rfl ?_
  refine nw 116 zeQ ?_
  refine st rfl rfl rfl tyQ rfl ?_
  refine asg rfl ?_
  refine ⟨by kernel_rfl, ?_⟩
  refine nx (sl 4 rfl (sl 5 rfl sn)) (el 10 rfl (el 11 rfl (el 12 rfl (el 116 rfl en)))) ?_
  refine tri_seq ?_
  refine tri_reg mixed hcx ?_ _ _
  refine ld rfl rfl tyQ rfl ?_
  refine st rfl rfl rfl tyQ rfl ?_
  refine ⟨by kernel_rfl, ?_⟩
  refine nx (sl 4 rfl sn) (el 10 rfl (el 11 rfl (el 12 rfl (el 116 rfl en)))) ?_
  refine tri_ret ?_
  repeat (first | refine pn_thenr ?_ | refine pn_blkr ?_)
  exact ret1 hcx rfl (rv_cell (c' := cx) (n := 0) rfl rfl tyQ rfl) (.refl _) en

theorem f_sub {x y : Rat} {k l : Nat} (hk : k ≤ 17179869184) (hl : l ≤ 17179869184) : Fn Tryz.prog 73 [T.V x k, T.V y l] [] [] [] (T.Q (x - y) (k + l + 1)) := by
  refine fn_of Tryz.func73 rfl (by show 2 ≤ 14; decide) fun cx hcx => ?_
  refine tri_sub (sl 0 rfl (sl 1 rfl sn)) en ?_
  refine tri_seq ?_
  refine tri_reg mixed hcx ?_ _ _
  refine bx 10 rfl ?_
  refine bx 11 rfl ?_
  refine nw 12 zeQ ?_
  refine ⟨by kernel_rfl, ?_⟩
  refine nx (sl 2 rfl (sl 3 rfl (sl 4 rfl sn))) (el 10 rfl (el 11 rfl (el 12 rfl en))) ?_
  refine tri_seq ?_
  refine tri_reg mixed hcx ?_ _ _
  refine ld rfl rfl tyQ rfl ?_
  refine ld rfl rfl tyQ rfl ?_
  refine cb rfl (h := rv_Sub (by omega) (by omega)) (hn := ?_)
  refine mv rfl ?_
  refine ex rfl rfl ?_
  refine ex rfl rfl ?_
  refine nw 116 zeQ ?_
  refine st rfl rfl rfl tyQ rfl ?_
  refine asg rfl ?_
  refine ⟨by kernel_rfl, ?_⟩
  refine nx (sl 4 rfl (sl 5 rfl sn)) (el 10 rfl (el 11 rfl (el 12 rfl (el 116 rfl en)))) ?_
  refine tri_seq ?_
  refine tri_reg mixed hcx ?_ _ _
  refine ld rfl rfl tyQ rfl ?_
  refine st rfl rfl rfl tyQ rfl ?_
  refine ⟨by kernel_rfl, ?_⟩
  refine nx (sl 4 rfl sn) (el 10 rfl (el 11 rfl (el 12 rfl (el 116 rfl en)))) ?_
  refine tri_ret ?_
  repeat (first | refine pn_thenr ?_ | refine pn_blkr ?_)
  exact ret1 hcx rfl (rv_cell (c' := cx) (n := 0) rfl rfl tyQ rfl) (.refl _) en

theorem f_mu {D : List Int} {L : List (List Int)} {ts : List (Int × Int)} {k n : Nat} (hG : GoodP D L) (hLn : L.length = n) (hn : n ≤ 1048575) (hk : k ≤ 1048576) {i j : Nat} (hi : i < n) (hj : j < i) : Fn Tryz.prog 175 [T.fp (T.st [T.st [T.l (cZ k) D, T.l (cL (cZ k)) L], T.l (cQ (k + k + 2)) (tvL ts n), T.c (.int .i64 (n : Int))]), T.c (.int .i64 (i : Int)), T.c (.int .i64 (j : Int))] [] [] [] (T.Q (muq D L i j) (k + k)) := by
  refine fn_of Tryz.func175 rfl (by show 3 ≤ 20; decide) fun cx hcx => ?_
  refine tri_sub (sl 0 rfl (sl 1 rfl (sl 2 rfl sn))) en ?_
  have hgl : (T.st [T.l (cZ k) D, T.l (cL (cZ k)) L]).le (T.G D L k) := g_le
  refine tri_seq ?_
  refine tri_reg mixed hcx ?_ _ _
  refine nw 10 zeQ ?_
  refine ⟨by kernel_rfl, ?_⟩
  refine nx (sl 0 rfl (sl 1 rfl (sl 2 rfl (sl 6 rfl sn)))) (el 10 rfl en) ?_
  refine tri_seq ?_
  refine tri_reg mixed hcx ?_ _ _
  refine mv rfl ?_
  refine nk rfl ?_
  refine ff rfl fPg rfl ?_
  refine lf rfl tyG ?_
  refine mv rfl ?_
  refine mv rfl ?_
  refine ca rfl (h := g_Mu (k := k) (by omega) (by omega) hG (show i < L.length by omega) hj) (hn := ?_)
  refine mv rfl ?_
  refine ex rfl rfl ?_
  refine ex rfl rfl ?_
  refine nw 120 zeQ ?_
  refine st rfl rfl rfl tyQ rfl ?_
  refine asg rfl ?_
  refine ⟨by kernel_rfl, ?_⟩
  refine nx (sl 6 rfl (sl 7 rfl sn)) (el 10 rfl (el 120 rfl en)) ?_
  refine tri_seq ?_
  refine tri_reg mixed hcx ?_ _ _
  refine ld rfl rfl tyQ rfl ?_
  refine st rfl rfl rfl tyQ rfl ?_
  refine ⟨by kernel_rfl, ?_⟩
  refine nx (sl 6 rfl sn) (el 10 rfl (el 120 rfl en)) ?_
  refine tri_ret ?_
  repeat (first | refine pn_thenr ?_ | refine pn_blkr ?_)
  exact ret1 hcx rfl (rv_cell (c' := cx) (n := 0) rfl rfl tyQ rfl) (.refl _) en

theorem f_star {D : List Int} {L : List (List Int)} {ts : List (Int × Int)} {k n : Nat} (hG : GoodP D L) (hLn : L.length = n) (hn : n ≤ 1048575) (hk : k ≤ 1048576) {i : Nat} (hi : i < n) : Fn Tryz.prog 75 [T.fp (T.st [T.st [T.l (cZ k) D, T.l (cL (cZ k)) L], T.l (cQ (k + k + 2)) (tvL ts n), T.c (.int .i64 (n : Int))]), T.c (.int .i64 (i : Int))] [] [] [] (T.Q (stq D i) (k + k)) := by
  refine fn_of Tryz.func75 rfl (by show 2 ≤ 17; decide) fun cx hcx => ?_
  refine tri_sub (sl 0 rfl (sl 1 rfl sn)) en ?_
  have hgl : (T.st [T.l (cZ k) D, T.l (cL (cZ k)) L]).le (T.G D L k) := g_le
  refine tri_seq ?_
  refine tri_reg mixed hcx ?_ _ _
  refine nw 10 zeQ ?_
  refine ⟨by kernel_rfl, ?_⟩
  refine nx (sl 0 rfl (sl 1 rfl (sl 4 rfl sn))) (el 10 rfl en) ?_
  refine tri_seq ?_
  refine tri_reg mixed hcx ?_ _ _
  refine mv rfl ?_
  refine nk rfl ?_
  refine ff rfl fPg rfl ?_
  refine lf rfl tyG ?_
  refine mv rfl ?_
  refine ca rfl (h := g_Star (k := k) (by omega) (by omega) hG (show i < L.length by omega)) (hn := ?_)
  refine mv rfl ?_
  refine ex rfl rfl ?_
  refine ex rfl rfl ?_
  refine nw 119 zeQ ?_
  refine st rfl rfl rfl tyQ rfl ?_
  refine asg rfl ?_
  refine ⟨by kernel_rfl, ?_⟩
  refine nx (sl 4 rfl (sl 5 rfl sn)) (el 10 rfl (el 119 rfl en)) ?_
  refine tri_seq ?_
  refine tri_reg mixed hcx ?_ _ _
  refine ld rfl rfl tyQ rfl ?_
  refine st rfl rfl rfl tyQ rfl ?_
  refine ⟨by kernel_rfl, ?_⟩
  refine nx (sl 4 rfl sn) (el 10 rfl (el 119 rfl en)) ?_
  refine tri_ret ?_
  repeat (first | refine pn_thenr ?_ | refine pn_blkr ?_)
  exact ret1 hcx rfl (rv_cell (c' := cx) (n := 0) rfl rfl tyQ rfl) (.refl _) en

/-- A suffix's number at a row, less the target's. -/
def wF (ts : List (Int × Int)) (x : List Int) (m j : Nat) : Rat := ((x.getD (m - j) 0 : Int) : Rat) - aqT ts j
def bsF (D : List Int) (L : List (List Int)) (ts : List (Int × Int)) (x : List Int) (m i : Nat) : Nat → Rat
  | 0 => 0
  | t + 1 => bsF D L ts x m i t + wF ts x m (i + 1 + t) * muq D L (i + 1 + t) i
def nmF (D : List Int) (L : List (List Int)) (ts : List (Int × Int)) (x : List Int) (m i0 : Nat) : Nat → Rat
  | 0 => 0
  | t + 1 => nmF D L ts x m i0 t + (wF ts x m (i0 + t) + bsF D L ts x m (i0 + t) (m - (i0 + t))) * (wF ts x m (i0 + t) + bsF D L ts x m (i0 + t) (m - (i0 + t))) * stq D (i0 + t)
theorem tvL_len {ts : List (Int × Int)} {n : Nat} (h : ts.length = 0 ∨ ts.length = n) : (tvL ts n).length = n := by
  unfold tvL
  rw [List.length_append, tvA_len, List.length_replicate]; omega

theorem f_shift {D : List Int} {L : List (List Int)} {ts : List (Int × Int)} {k n : Nat} {x : List Int} (htl : ts.length = 0 ∨ ts.length = n) (hn : n ≤ 1048575) (hx : x.length ≤ n) (hk : k ≤ 1048576) {j : Nat} (hj : j < n) (hjx : n - 1 - j < x.length) : Fn Tryz.prog 125 [T.fp (T.st [T.st [T.l (cZ k) D, T.l (cL (cZ k)) L], T.l (cQ (k + k + 2)) (tvL ts n), T.c (.int .i64 (n : Int))]), T.l (cZi k) x, T.c (.int .i64 (j : Int))] [] [] [] (T.Q (wF ts x (n - 1) j) (k + 2 + (k + k + 2) + 1)) := by
  refine fn_of Tryz.func125 rfl (by show 3 ≤ 26; decide) fun cx hcx => ?_
  refine tri_sub (sl 0 rfl (sl 1 rfl (sl 2 rfl sn))) en ?_
  have htvl := tvL_len htl
  refine tri_seq ?_
  refine tri_reg mixed hcx ?_ _ _
  refine nw 10 zeQ ?_
  refine ⟨by kernel_rfl, ?_⟩
  refine nx (sl 0 rfl (sl 1 rfl (sl 2 rfl (sl 6 rfl sn)))) (el 10 rfl en) ?_
  refine tri_seq ?_
  refine tri_reg mixed hcx ?_ _ _
  refine mv rfl ?_
  refine mv rfl ?_
  refine nk rfl ?_
  refine ff rfl fPn rfl ?_
  refine lf rfl tyI ?_
  refine sb _ rfl rfl rfl ⟨rfl, by omega, by omega⟩ ?_
  refine mv rfl ?_
  refine sb (((n - 1 - j : Nat) : Int)) rfl rfl rfl (by omega) ?_
  refine ix rfl rfl slZs (i := n - 1 - j) ⟨by omega, by omega⟩ ?_
  refine lf rfl tyZ ?_
  refine ca rfl (h := rat_Of (by omega)) (hn := ?_)
  refine mv rfl ?_
  refine nk rfl ?_
  refine ff rfl fPt rfl ?_
  refine lf rfl tyQs ?_
  refine mv rfl ?_
  refine ix rfl rfl slQs (i := j) ⟨rfl, by omega⟩ ?_
  refine lfx (X := T.Q (aqT ts j) (k + k + 2)) rfl tyQ (q_eq (tvL_at htl hj) (Nat.le_refl _)) ?_
  refine cb rfl (h := f_sub (by omega) (by omega)) (hn := ?_)
  refine st rfl rfl rfl tyQ rfl ?_
  refine ⟨by kernel_rfl, ?_⟩
  refine nx (sl 6 rfl sn) (el 10 rfl en) ?_
  refine tri_ret ?_
  repeat (first | refine pn_thenr ?_ | refine pn_blkr ?_)
  exact ret1 hcx rfl (rv_cell (c' := cx) (n := 0) rfl rfl tyQ rfl) (q_eq rfl (by omega)) en

theorem f_beside {D : List Int} {L : List (List Int)} {ts : List (Int × Int)} {k n : Nat} {x : List Int} (htl : ts.length = 0 ∨ ts.length = n) (hn : n ≤ 1048575) (hx : x.length ≤ n) (hk : k ≤ 1048576) (hG : GoodP D L) (hLn : L.length = n) {i : Nat} (hi : i < n) (hix : n - 1 - i ≤ x.length) {SZ : Nat} (hS : SZ ≤ 8589934592) (hQ : ∀ t, i + 1 + t ≤ n → QB (bsF D L ts x (n - 1) i t) SZ) : Fn Tryz.prog 126 [T.fp (T.st [T.st [T.l (cZ k) D, T.l (cL (cZ k)) L], T.l (cQ (k + k + 2)) (tvL ts n), T.c (.int .i64 (n : Int))]), T.l (cZi k) x, T.c (.int .i64 (i : Int))] [] [] [] (T.Q (bsF D L ts x (n - 1) i (n - 1 - i)) SZ) := by
  refine fn_of Tryz.func126 rfl (by show 3 ≤ 33; decide) fun cx hcx => ?_
  refine tri_sub (sl 0 rfl (sl 1 rfl (sl 2 rfl sn))) en ?_
  refine tri_seq ?_
  refine tri_reg mixed hcx ?_ _ _
  refine nw 10 zeQ ?_
  refine ⟨by kernel_rfl, ?_⟩
  refine nx (sl 0 rfl (sl 1 rfl (sl 2 rfl (sl 6 rfl sn)))) (el 10 rfl en) ?_
  refine tri_seq ?_
  refine tri_reg mixed hcx ?_ _ _
  refine bu stZ rfl ?_
  refine ca rfl (h := rat_Of (by omega)) (hn := ?_)
  refine nw 112 zeQ ?_
  refine st rfl rfl rfl tyQ rfl ?_
  refine ⟨by kernel_rfl, ?_⟩
  refine nx (sl 0 rfl (sl 1 rfl (sl 2 rfl (sl 6 rfl (sl 7 rfl sn))))) (el 10 rfl (el 112 rfl en)) ?_
  refine tri_seq ?_
  refine tri_seq ?_
  refine tri_reg mixed hcx ?_ _ _
  refine mv rfl ?_
  refine ad (((i + 1 + 0 : Nat) : Int)) rfl rfl rfl (by omega) ?_
  refine asg rfl ?_
  refine ⟨by kernel_rfl, ?_⟩
  refine nx (sl 0 rfl (sl 1 rfl (sl 2 rfl (sl 6 rfl (sl 7 rfl (sl 8 rfl sn)))))) (el 10 rfl (el 112 rfl en)) ?_
  refine tri_block ?_
  refine tri_loop (ι := Nat) (fun t => [(0, T.fp (T.st [T.st [T.l (cZ k) D, T.l (cL (cZ k)) L], T.l (cQ (k + k + 2)) (tvL ts n), T.c (.int .i64 (n : Int))])), (1, T.l (cZi k) x), (2, T.c (.int .i64 (i : Int))), (6, T.p 10 0), (7, T.p 112 0), (8, T.c (.int .i64 ((i + 1 + t : Nat) : Int)))]) (fun t => [(10, some (Ent.box 31 [T.c (.bool false), T.c (.slice none 0 0), T.c (.bool false), T.c (.slice none 0 0)])), (112, some (Ent.box 31 [T.Q (bsF D L ts x (n - 1) i t) SZ]))]) (fun t => n - t) (fun t => (i + 1 + t ≤ n)) 0 (by omega) (sl 0 rfl (sl 1 rfl (sl 2 rfl (sl 6 rfl (sl 7 rfl (sl 8 rfl sn)))))) (el 10 rfl (ew 112 rfl (box_q (q_qb rfl (hQ 0 (by omega)))) en)) ?_
  rintro t ht
  refine tri_sub (sl 0 rfl (sl 1 rfl (sl 2 rfl (sl 6 rfl (sl 7 rfl (sl 8 rfl sn)))))) (el 10 rfl (el 112 rfl en)) ?_
  refine tri_seq ?_
  refine tri_seq ?_
  refine tri_reg mixed hcx ?_ _ _
  refine mv rfl ?_
  refine mv rfl ?_
  refine nk rfl ?_
  refine ff rfl fPn rfl ?_
  refine lf rfl tyI ?_
  refine clt rfl rfl rfl ?_
  refine ⟨by kernel_rfl, ?_⟩
  refine nx (sl 0 rfl (sl 1 rfl (sl 2 rfl (sl 6 rfl (sl 7 rfl (sl 8 rfl (sl 18 rfl sn))))))) (el 10 rfl (el 112 rfl en)) ?_
  refine tri_if rfl (fun hc => ?_) (fun hc => ?_)
  · have hc2 : i + 1 + t < n := by omega
    refine tri_skip ?_
    refine nx (sl 0 rfl (sl 1 rfl (sl 2 rfl (sl 6 rfl (sl 7 rfl (sl 8 rfl sn)))))) (el 10 rfl (el 112 rfl en)) ?_
    refine tri_seq ?_
    refine tri_block ?_
    refine tri_reg mixed hcx ?_ _ _
    refine ld rfl rfl tyQ rfl ?_
    refine mv rfl ?_
    refine mv rfl ?_
    refine mv rfl ?_
    refine ca rfl (h := f_shift htl hn hx hk hc2 (by omega)) (hn := ?_)
    refine mv rfl ?_
    refine mv rfl ?_
    refine mv rfl ?_
    refine ca rfl (h := f_mu hG hLn hn hk hc2 (by omega)) (hn := ?_)
    refine cb rfl (h := f_mul (by omega) (by omega)) (hn := ?_)
    refine cb rfl (h := f_add (by omega) (by omega)) (hn := ?_)
    refine st rfl rfl rfl tyQ rfl ?_
    refine ⟨by kernel_rfl, ?_⟩
    refine pn_blk ?_
    refine nx (sl 0 rfl (sl 1 rfl (sl 2 rfl (sl 6 rfl (sl 7 rfl (sl 8 rfl sn)))))) (el 10 rfl (el 112 rfl en)) ?_
    refine tri_reg mixed hcx ?_ _ _
    refine mv rfl ?_
    refine ad (((i + 1 + (t + 1) : Nat) : Int)) rfl rfl rfl (by omega) ?_
    refine asg rfl ?_
    refine ⟨by kernel_rfl, ?_⟩
    exact pn_back (t + 1) (by first | omega | (dsimp only; omega)) (by omega) (sl 0 rfl (sl 1 rfl (sl 2 rfl (sl 6 rfl (sl 7 rfl (sw 8 rfl (ci (by omega)) sn)))))) (el 10 rfl (ew 112 rfl (box_q (q_qb rfl (hQ (t + 1) (by omega)))) en))
  · refine tri_exit ?_
    repeat (first | refine pn_then ?_ | refine pn_oth (by decide) ?_)
    refine pn_ex ?_
    have htn : t = n - 1 - i := by omega
    refine nx (sl 6 rfl (sl 7 rfl sn)) (el 10 rfl (el 112 rfl en)) ?_
    refine tri_seq ?_
    refine tri_reg mixed hcx ?_ _ _
    refine ld rfl rfl tyQ rfl ?_
    refine st rfl rfl rfl tyQ rfl ?_
    refine ⟨by kernel_rfl, ?_⟩
    refine nx (sl 6 rfl sn) (el 10 rfl (el 112 rfl en)) ?_
    refine tri_ret ?_
    repeat (first | refine pn_thenr ?_ | refine pn_blkr ?_)
    exact ret1 hcx rfl (rv_cell (c' := cx) (n := 0) rfl rfl tyQ rfl) (q_eq (by rw [htn]) (Nat.le_refl _)) en

theorem f_norm {D : List Int} {L : List (List Int)} {ts : List (Int × Int)} {k n : Nat} {x : List Int} (htl : ts.length = 0 ∨ ts.length = n) (hn : n ≤ 1048575) (hx : x.length ≤ n) (hk : k ≤ 1048576) (hG : GoodP D L) (hLn : L.length = n) {SZ : Nat} (hS : SZ ≤ 2147483648) (hQ : ∀ i t, n - x.length ≤ i → i + 1 + t ≤ n → QB (bsF D L ts x (n - 1) i t) SZ) (hN : ∀ t, t ≤ x.length → QB (nmF D L ts x (n - 1) (n - x.length) t) SZ) : Fn Tryz.prog 61 [T.fp (T.st [T.st [T.l (cZ k) D, T.l (cL (cZ k)) L], T.l (cQ (k + k + 2)) (tvL ts n), T.c (.int .i64 (n : Int))]), T.l (cZi k) x] [] [] [] (T.Q (nmF D L ts x (n - 1) (n - x.length) x.length) SZ) := by
  refine fn_of Tryz.func61 rfl (by show 2 ≤ 44; decide) fun cx hcx => ?_
  refine tri_sub (sl 0 rfl (sl 1 rfl sn)) en ?_
  refine tri_seq ?_
  refine tri_reg mixed hcx ?_ _ _
  refine nw 10 zeQ ?_
  refine ⟨by kernel_rfl, ?_⟩
  refine nx (sl 0 rfl (sl 1 rfl (sl 4 rfl sn))) (el 10 rfl en) ?_
  refine tri_seq ?_
  refine tri_reg mixed hcx ?_ _ _
  refine bu stZ rfl ?_
  refine ca rfl (h := rat_Of (by omega)) (hn := ?_)
  refine nw 112 zeQ ?_
  refine st rfl rfl rfl tyQ rfl ?_
  refine ⟨by kernel_rfl, ?_⟩
  refine nx (sl 0 rfl (sl 1 rfl (sl 4 rfl (sl 5 rfl sn)))) (el 10 rfl (el 112 rfl en)) ?_
  refine tri_seq ?_
  refine tri_seq ?_
  refine tri_reg mixed hcx ?_ _ _
  refine mv rfl ?_
  refine nk rfl ?_
  refine ff rfl fPn rfl ?_
  refine lf rfl tyI ?_
  refine mv rfl ?_
  refine ln slZs rfl ?_
  refine sb (((n - x.length + 0 : Nat) : Int)) rfl rfl rfl (by omega) ?_
  refine asg rfl ?_
  refine ⟨by kernel_rfl, ?_⟩
  refine nx (sl 0 rfl (sl 1 rfl (sl 4 rfl (sl 5 rfl (sl 6 rfl sn))))) (el 10 rfl (el 112 rfl en)) ?_
  refine tri_block ?_
  refine tri_loop (ι := Nat) (fun t => [(0, T.fp (T.st [T.st [T.l (cZ k) D, T.l (cL (cZ k)) L], T.l (cQ (k + k + 2)) (tvL ts n), T.c (.int .i64 (n : Int))])), (1, T.l (cZi k) x), (4, T.p 10 0), (5, T.p 112 0), (6, T.c (.int .i64 ((n - x.length + t : Nat) : Int)))]) (fun t => [(10, some (Ent.box 31 [T.c (.bool false), T.c (.slice none 0 0), T.c (.bool false), T.c (.slice none 0 0)])), (112, some (Ent.box 31 [T.Q (nmF D L ts x (n - 1) (n - x.length) t) SZ]))]) (fun t => n - t) (fun t => (t ≤ x.length)) 0 (by omega) (sl 0 rfl (sl 1 rfl (sl 4 rfl (sl 5 rfl (sl 6 rfl sn))))) (el 10 rfl (ew 112 rfl (box_q (q_qb rfl (hN 0 (by omega)))) en)) ?_
  rintro t ht
  refine tri_sub (sl 0 rfl (sl 1 rfl (sl 4 rfl (sl 5 rfl (sl 6 rfl sn))))) (el 10 rfl (el 112 rfl en)) ?_
  refine tri_seq ?_
  refine tri_seq ?_
  refine tri_reg mixed hcx ?_ _ _
  refine mv rfl ?_
  refine mv rfl ?_
  refine nk rfl ?_
  refine ff rfl fPn rfl ?_
  refine lf rfl tyI ?_
  refine clt rfl rfl rfl ?_
  refine ⟨by kernel_rfl, ?_⟩
  refine nx (sl 0 rfl (sl 1 rfl (sl 4 rfl (sl 5 rfl (sl 6 rfl (sl 22 rfl sn)))))) (el 10 rfl (el 112 rfl en)) ?_
  refine tri_if rfl (fun hc => ?_) (fun hc => ?_)
  · have hc2 : n - x.length + t < n := by omega
    refine tri_skip ?_
    refine nx (sl 0 rfl (sl 1 rfl (sl 4 rfl (sl 5 rfl (sl 6 rfl sn))))) (el 10 rfl (el 112 rfl en)) ?_
    refine tri_seq ?_
    refine tri_block ?_
    refine tri_seq ?_
    refine tri_reg mixed hcx ?_ _ _
    refine mv rfl ?_
    refine mv rfl ?_
    refine mv rfl ?_
    refine ca rfl (h := f_shift htl hn hx hk hc2 (by omega)) (hn := ?_)
    refine mv rfl ?_
    refine mv rfl ?_
    refine mv rfl ?_
    refine ca rfl (h := f_beside htl hn hx hk hG hLn hc2 (by omega) (SZ := SZ) (by omega) (fun t2 h2 => hQ _ t2 (by omega) h2)) (hn := ?_)
    refine cb rfl (h := f_add (by omega) (by omega)) (hn := ?_)
    refine nw 519 zeQ ?_
    refine st rfl rfl rfl tyQ rfl ?_
    refine ⟨by kernel_rfl, ?_⟩
    refine nx (sl 0 rfl (sl 1 rfl (sl 4 rfl (sl 5 rfl (sl 6 rfl (sl 7 rfl sn)))))) (el 10 rfl (el 112 rfl (el 519 rfl en))) ?_
    refine tri_reg mixed hcx ?_ _ _
    refine ld rfl rfl tyQ rfl ?_
    refine ld rfl rfl tyQ rfl ?_
    refine ld rfl rfl tyQ rfl ?_
    refine cb rfl (h := f_mul (by omega) (by omega)) (hn := ?_)
    refine mv rfl ?_
    refine mv rfl ?_
    refine ca rfl (h := f_star hG hLn hn hk hc2) (hn := ?_)
    refine cb rfl (h := f_mul (by omega) (by omega)) (hn := ?_)
    refine cb rfl (h := f_add (by omega) (by omega)) (hn := ?_)
    refine st rfl rfl rfl tyQ rfl ?_
    refine ⟨by kernel_rfl, ?_⟩
    refine pn_blk ?_
    refine nx (sl 0 rfl (sl 1 rfl (sl 4 rfl (sl 5 rfl (sl 6 rfl sn))))) (el 10 rfl (el 112 rfl (el 519 rfl en))) ?_
    refine tri_reg mixed hcx ?_ _ _
    refine mv rfl ?_
    refine ad (((n - x.length + (t + 1) : Nat) : Int)) rfl rfl rfl (by omega) ?_
    refine asg rfl ?_
    refine ⟨by kernel_rfl, ?_⟩
    exact pn_back (t + 1) (by first | omega | (dsimp only; omega)) (by omega) (sl 0 rfl (sl 1 rfl (sl 4 rfl (sl 5 rfl (sw 6 rfl (ci (by omega)) sn))))) (el 10 rfl (ew 112 rfl (box_q (q_qb rfl (hN (t + 1) (by omega)))) en))
  · refine tri_exit ?_
    repeat (first | refine pn_then ?_ | refine pn_oth (by decide) ?_)
    refine pn_ex ?_
    have htn : t = x.length := by omega
    refine nx (sl 4 rfl (sl 5 rfl sn)) (el 10 rfl (el 112 rfl en)) ?_
    refine tri_seq ?_
    refine tri_reg mixed hcx ?_ _ _
    refine ld rfl rfl tyQ rfl ?_
    refine st rfl rfl rfl tyQ rfl ?_
    refine ⟨by kernel_rfl, ?_⟩
    refine nx (sl 4 rfl sn) (el 10 rfl (el 112 rfl en)) ?_
    refine tri_ret ?_
    repeat (first | refine pn_thenr ?_ | refine pn_blkr ?_)
    exact ret1 hcx rfl (rv_cell (c' := cx) (n := 0) rfl rfl tyQ rfl) (q_eq (by rw [htn]) (Nat.le_refl _)) en

theorem f_Norm {D : List Int} {L : List (List Int)} {ts : List (Int × Int)} {k n : Nat} {x : List Int} (htl : ts.length = 0 ∨ ts.length = n) (hn : n ≤ 1048575) (hx : x.length ≤ n) (hk : k ≤ 1048576) (hG : GoodP D L) (hLn : L.length = n) {SZ : Nat} (hS : SZ ≤ 2147483648) (hQ : ∀ i t, n - x.length ≤ i → i + 1 + t ≤ n → QB (bsF D L ts x (n - 1) i t) SZ) (hN : ∀ t, t ≤ x.length → QB (nmF D L ts x (n - 1) (n - x.length) t) SZ) (htp : ∀ i, i < ts.length → 0 < (ts.getD i (0, 0)).2) : Fn Tryz.prog 11 [T.G D L k, T.l (cQi k) ts, T.l (cZi k) x] [] [] [] (T.tup [T.Q (nmF D L ts x (n - 1) (n - x.length) x.length) SZ, T.c (.int .i64 0)]) := by
  refine fn_of Tryz.func11 rfl (by show 3 ≤ 24; decide) fun cx hcx => ?_
  refine tri_sub (sl 0 rfl (sl 1 rfl (sl 2 rfl sn))) en ?_
  refine tri_seq ?_
  refine tri_reg mixed hcx ?_ _ _
  refine bxs 10 rfl ?_
  refine nw 11 zeQ ?_
  refine asg rfl ?_
  refine ⟨by kernel_rfl, ?_⟩
  refine nx (sl 1 rfl (sl 2 rfl (sl 3 rfl (sl 6 rfl sn)))) (el 10 rfl (el 11 rfl en)) ?_
  refine tri_seq ?_
  refine tri_reg mixed hcx ?_ _ _
  refine ld rfl rfl tyG rfl ?_
  refine mv rfl ?_
  refine mv rfl ?_
  refine ca rfl (h := f_asked hG hLn hn htl htp hk hx) (hn := ?_)
  refine mv rfl ?_
  refine ex rfl rfl ?_
  refine ex rfl rfl ?_
  refine asg rfl ?_
  refine asg rfl ?_
  refine ⟨by kernel_rfl, ?_⟩
  refine nx (sl 2 rfl (sl 6 rfl (sl 8 rfl (sl 9 rfl sn)))) (el 10 rfl (el 11 rfl en)) ?_
  refine tri_seq ?_
  refine tri_seq ?_
  refine tri_reg mixed hcx ?_ _ _
  refine mv rfl ?_
  refine cne rfl rfl (decide_eq_false (by omega)) ?_
  refine ⟨by kernel_rfl, ?_⟩
  refine nx (sl 2 rfl (sl 6 rfl (sl 8 rfl (sl 9 rfl (sl 18 rfl sn))))) (el 10 rfl (el 11 rfl en)) ?_
  refine tri_false rfl rfl ?_
  refine tri_skip ?_
  refine nx (sl 2 rfl (sl 6 rfl (sl 8 rfl sn))) (el 10 rfl (el 11 rfl en)) ?_
  refine tri_seq ?_
  refine tri_reg mixed hcx ?_ _ _
  refine mv rfl ?_
  refine mv rfl ?_
  refine ca rfl (h := f_norm htl hn hx hk hG hLn hS hQ hN) (hn := ?_)
  refine st rfl rfl rfl tyQ rfl ?_
  refine asg rfl ?_
  refine ⟨by kernel_rfl, ?_⟩
  refine nx (sl 6 rfl (sl 7 rfl sn)) (el 10 rfl (el 11 rfl en)) ?_
  refine tri_ret ?_
  repeat (first | refine pn_thenr ?_ | refine pn_blkr ?_)
  exact ret2 hcx rfl (rv_cell (c' := cx) (n := 0) rfl rfl tyQ rfl) (rv_tmp rfl) (.refl _) en

theorem f_New {D : List Int} {L : List (List Int)} {ts : List (Int × Int)} {k n : Nat} (hG : GoodP D L) (hLn : L.length = n) (hn : n ≤ 1048575) (htl : ts.length = 0 ∨ ts.length = n) (htp : ∀ i, i < ts.length → 0 < (ts.getD i (0, 0)).2) (hk : k ≤ 1048576) : Fn Tryz.prog 84 [T.G D L k, T.l (cQi k) ts] [] [] [] (T.tup [T.fp (T.st [T.fp (T.st [T.st [T.l (cZ k) D, T.l (cL (cZ k)) L], T.l (cQ (k + k + 2)) (tvL ts n), T.c (.int .i64 (n : Int))]), T.c (.int .u32 0), T.c (.int .i32 0), T.c (.int .u32 0), T.c (.slice none 0 0), T.c (.slice none 0 0), T.c (.slice none 0 0), T.c (.int .i64 0), T.c (.int .i64 0)]), T.c (.int .i64 0)]) := by
  refine fn_of Tryz.func84 rfl (by show 2 ≤ 20; decide) fun cx hcx => ?_
  refine tri_sub (sl 0 rfl (sl 1 rfl sn)) en ?_
  refine tri_seq ?_
  refine tri_reg mixed hcx ?_ _ _
  refine bxs 10 rfl ?_
  refine asg rfl ?_
  refine asg rfl ?_
  refine ⟨by kernel_rfl, ?_⟩
  refine nx (sl 1 rfl (sl 2 rfl sn)) (el 10 rfl en) ?_
  refine tri_seq ?_
  refine tri_reg mixed hcx ?_ _ _
  refine ld rfl rfl tyG rfl ?_
  refine mv rfl ?_
  refine ca rfl (h := f_posed hG hLn hn htl htp hk) (hn := ?_)
  refine mv rfl ?_
  refine ex rfl rfl ?_
  refine ex rfl rfl ?_
  refine asg rfl ?_
  refine asg rfl ?_
  refine ⟨by kernel_rfl, ?_⟩
  refine nx (sl 6 rfl (sl 7 rfl sn)) (el 10 rfl en) ?_
  refine tri_seq ?_
  refine tri_seq ?_
  refine tri_reg mixed hcx ?_ _ _
  refine mv rfl ?_
  refine cne rfl rfl (decide_eq_false (by omega)) ?_
  refine ⟨by kernel_rfl, ?_⟩
  refine nx (sl 6 rfl (sl 7 rfl (sl 15 rfl sn))) (el 10 rfl en) ?_
  refine tri_false rfl rfl ?_
  refine tri_skip ?_
  refine nx (sl 6 rfl sn) (el 10 rfl en) ?_
  refine tri_seq ?_
  refine tri_reg mixed hcx ?_ _ _
  refine mv rfl ?_
  refine bu stFi rfl ?_
  refine bxs 412 rfl ?_
  refine asg rfl ?_
  refine asg rfl ?_
  refine ⟨by kernel_rfl, ?_⟩
  refine nx (sl 4 rfl (sl 5 rfl sn)) (el 10 rfl (el 412 rfl en)) ?_
  refine tri_fzb 4 412 rfl rfl (by show (9 : Nat) ≠ 0; decide) ?_
  refine tri_ret ?_
  repeat (first | refine pn_thenr ?_ | refine pn_blkr ?_)
  exact ret2 hcx rfl (rv_tmp rfl) (rv_tmp rfl) (.refl _) en
end Go.Proofs.YtffnfbhhjjbjbaaGreat.V
/- The law of filters is awake. -/
set_option linter.unusedVariables false
set_option linter.unusedSimpArgs false
set_option maxRecDepth 100000
namespace Go.Proofs.YtffnfbhhjjbjbaaGreat.V
open Go.RowKit Mt Nml
theorem l10_eq {z : Int} {k l : Nat} (hk : k ≤ 17592186044416) : Fn Tryz.prog 21 [T.Z z k, T.Z z l] [] [] [] (T.c (.bool true)) := by
  refine fn_of Tryz.func21 rfl (by show 2 ≤ 38; decide) fun cx hcx => ?_
  refine tri_sub (sl 0 rfl (sl 1 rfl sn)) en ?_
  refine tri_z 0 rfl fun hz => ?_
  have hzl : (dig z.natAbs).length ≤ k := hz
  refine tri_seq ?_
  refine tri_reg mixed hcx ?_ _ _
  refine bxs 10 rfl ?_
  refine bxs 11 rfl ?_
  refine asg rfl ?_
  refine ⟨by kernel_rfl, ?_⟩
  refine nx (sl 2 rfl (sl 3 rfl sn)) (el 10 rfl (el 11 rfl en)) ?_
  refine tri_seq ?_
  refine tri_seq ?_
  refine tri_reg mixed hcx ?_ _ _
  refine fa rfl fNeg 0 ?_
  refine ld rfl rfl tyB rfl ?_
  refine fa rfl fNeg 0 ?_
  refine ld rfl rfl tyB rfl ?_
  refine neb (q := false) rfl rfl (by simp) ?_
  refine mv rfl ?_
  refine fa rfl fMag 1 ?_ (hg := gd1)
  refine ld rfl rfl tyLs rfl ?_ (hg := gd1)
  refine ln slLs rfl ?_ (hg := gd1)
  refine fa rfl fMag 1 ?_ (hg := gd1)
  refine ld rfl rfl tyLs rfl ?_ (hg := gd1)
  refine ln slLs rfl ?_ (hg := gd1)
  refine cne rfl rfl (decide_eq_false (by omega)) ?_ (hg := gd1)
  refine pk rfl rfl ?_
  refine ⟨by kernel_rfl, ?_⟩
  refine nx (sl 2 rfl (sl 3 rfl (sl 19 rfl sn))) (el 10 rfl (el 11 rfl en)) ?_
  refine tri_false rfl rfl ?_
  refine tri_skip ?_
  refine nx (sl 2 rfl (sl 3 rfl sn)) (el 10 rfl (el 11 rfl en)) ?_
  refine tri_seq ?_
  refine tri_seq ?_
  refine tri_reg mixed hcx ?_ _ _
  refine asg rfl ?_
  refine ⟨by kernel_rfl, ?_⟩
  refine nx (sl 2 rfl (sl 3 rfl (sl 5 rfl sn))) (el 10 rfl (el 11 rfl en)) ?_
  refine tri_block ?_
  refine tri_loop (ι := Nat) (fun i => [(2, T.p 10 0), (3, T.p 11 0), (5, T.c (.int .i64 (i : Int)))]) (fun i => [(10, some (Ent.box 29 [T.c (.bool (decide (z < 0))), T.l cU (dig (z).natAbs)])), (11, some (Ent.box 29 [T.c (.bool (decide (z < 0))), T.l cU (dig (z).natAbs)]))]) (fun i => (dig z.natAbs).length - i) (fun i => (i ≤ (dig z.natAbs).length)) 0 (Nat.zero_le _) (sl 2 rfl (sl 3 rfl (sl 5 rfl sn))) (el 10 rfl (el 11 rfl en)) ?_
  rintro i hi
  refine tri_sub (sl 2 rfl (sl 3 rfl (sl 5 rfl sn))) (el 10 rfl (el 11 rfl en)) ?_
  refine tri_seq ?_
  refine tri_seq ?_
  refine tri_reg mixed hcx ?_ _ _
  refine mv rfl ?_
  refine fa rfl fMag 1 ?_
  refine ld rfl rfl tyLs rfl ?_
  refine ln slLs rfl ?_
  refine clt rfl rfl rfl ?_
  refine ⟨by kernel_rfl, ?_⟩
  refine nx (sl 2 rfl (sl 3 rfl (sl 5 rfl (sl 24 rfl sn)))) (el 10 rfl (el 11 rfl en)) ?_
  refine tri_if rfl (fun hc => ?_) (fun hc => ?_)
  · refine tri_skip ?_
    refine nx (sl 2 rfl (sl 3 rfl (sl 5 rfl sn))) (el 10 rfl (el 11 rfl en)) ?_
    refine tri_seq ?_
    refine tri_block ?_
    refine tri_seq ?_
    refine tri_reg mixed hcx ?_ _ _
    refine fa rfl fMag 1 ?_
    refine ld rfl rfl tyLs rfl ?_
    refine mv rfl ?_
    refine ix rfl rfl slLs ⟨rfl, by omega⟩ ?_
    refine lf rfl tyU32 ?_
    refine fa rfl fMag 1 ?_
    refine ld rfl rfl tyLs rfl ?_
    refine mv rfl ?_
    refine ix rfl rfl slLs ⟨rfl, by omega⟩ ?_
    refine lf rfl tyU32 ?_
    refine cne rfl rfl (decide_eq_false (by omega)) ?_
    refine ⟨by kernel_rfl, ?_⟩
    refine nx (sl 2 rfl (sl 3 rfl (sl 5 rfl (sl 37 rfl sn)))) (el 10 rfl (el 11 rfl en)) ?_
    refine tri_false rfl rfl ?_
    refine tri_skip ?_
    refine pn_blk ?_
    refine nx (sl 2 rfl (sl 3 rfl (sl 5 rfl sn))) (el 10 rfl (el 11 rfl en)) ?_
    refine tri_reg mixed hcx ?_ _ _
    refine mv rfl ?_
    refine ad (((i + 1 : Nat) : Int)) rfl rfl rfl (by omega) ?_
    refine asg rfl ?_
    refine ⟨by kernel_rfl, ?_⟩
    exact pn_back (i + 1) (by first | omega | (dsimp only; omega)) (by omega) (sl 2 rfl (sl 3 rfl (sl 5 rfl sn))) (el 10 rfl (el 11 rfl en))
  · refine tri_exit ?_
    repeat (first | refine pn_then ?_ | refine pn_oth (by decide) ?_)
    refine pn_ex ?_
    refine nx sn (el 10 rfl (el 11 rfl en)) ?_
    refine tri_seq ?_
    refine tri_reg mixed hcx ?_ _ _
    refine asg rfl ?_
    refine ⟨by kernel_rfl, ?_⟩
    refine nx (sl 4 rfl sn) (el 10 rfl (el 11 rfl en)) ?_
    refine tri_ret ?_
    repeat (first | refine pn_thenr ?_ | refine pn_blkr ?_)
    exact ret1 hcx rfl (rv_tmp rfl) (.refl _) en

theorem l10_plain  : Fn Tryz.prog 83 [] [] [] [] (T.st [T.l (cZ 2) [1, 1], T.l (cL (cZ 2)) [[]]]) := by
  refine fn_of Tryz.func83 rfl (by show 0 ≤ 15; decide) fun cx hcx => ?_
  refine tri_sub sn en ?_
  refine tri_seq ?_
  refine tri_reg mixed hcx ?_ _ _
  refine nw 10 zeG ?_
  refine ⟨by kernel_rfl, ?_⟩
  refine nx (sl 0 rfl sn) (el 10 rfl en) ?_
  refine tri_seq ?_
  refine tri_reg mixed hcx ?_ _ _
  refine nw 110 zeG ?_
  refine ⟨by kernel_rfl, ?_⟩
  refine nx (sl 0 rfl (sl 1 rfl sn)) (el 10 rfl (el 110 rfl en)) ?_
  refine tri_seq ?_
  refine tri_reg mixed hcx ?_ _ _
  refine fa rfl fD 0 ?_
  refine ld rfl rfl tyZs rfl ?_
  refine ca rfl (h := zi_Of (by omega) (by omega)) (hn := ?_)
  refine ca rfl (h := zi_Of (by omega) (by omega)) (hn := ?_)
  refine bs (c := cZ 2) (xs := [1, 1]) slZs rfl ⟨.refl _, .refl _, trivial⟩ ?_
  refine apn (c := cZ 2) 215 rfl rfl slZs (by decide) (by decide) ?_
  refine fa rfl fD 0 ?_
  refine st rfl rfl rfl tyZs rfl ?_
  refine ⟨by kernel_rfl, ?_⟩
  refine nx (sl 0 rfl (sl 1 rfl sn)) (el 10 rfl (el 110 rfl (el 215 rfl en))) ?_
  refine tri_seq ?_
  refine tri_reg mixed hcx ?_ _ _
  refine fa rfl fL 1 ?_
  refine ld rfl rfl tyZss rfl ?_
  refine bs (c := cL (cZ 2)) (xs := [[]]) slZss rfl ⟨nil_l _, trivial⟩ ?_
  refine apn (c := cL (cZ 2)) 313 rfl rfl slZss (by decide) (by decide) ?_
  refine fa rfl fL 1 ?_
  refine st rfl rfl rfl tyZss rfl ?_
  refine ⟨by kernel_rfl, ?_⟩
  refine nx (sl 0 rfl (sl 1 rfl sn)) (el 10 rfl (el 110 rfl (el 215 rfl (el 313 rfl en)))) ?_
  refine tri_seq ?_
  refine tri_fz 215 rfl ?_
  refine tri_rdb (bl := [T.o 215, T.o 313]) (bl' := [T.l (cZ 2) [1, 1], T.o 313]) 110 215 rfl rfl ⟨.inr ⟨rfl, rfl⟩, .inl rfl, trivial⟩ ?_
  refine tri_fz 313 rfl ?_
  refine tri_rdb (bl := [T.l (cZ 2) [1, 1], T.o 313]) (bl' := [T.l (cZ 2) [1, 1], T.l (cL (cZ 2)) [[]]]) 110 313 rfl rfl ⟨.inl rfl, .inr ⟨rfl, rfl⟩, trivial⟩ ?_
  refine tri_reg mixed hcx ?_ _ _
  refine ld rfl rfl tyG rfl ?_
  refine sts rfl rfl rfl tyG rfl ?_
  refine ⟨by kernel_rfl, ?_⟩
  refine nx (sl 0 rfl sn) (el 10 rfl (el 110 rfl en)) ?_
  refine tri_ret ?_
  repeat (first | refine pn_thenr ?_ | refine pn_blkr ?_)
  exact ret1 hcx rfl (rv_cell (c' := cx) (n := 0) rfl rfl tyG rfl) (.refl _) en

theorem z_st {z : Int} {k : Nat} (h : zl z ≤ k) : (T.st [T.c (.bool (decide (z < 0))), T.l cU (dig z.natAbs)]).le (T.Z z k) := fun β u v r => ⟨(), h, r⟩
theorem wF_b {D : List Int} {L : List (List Int)} {ts : List (Int × Int)} {n k : Nat} (h : TrS D L ts n k) {x : List Int} (hx : ∀ j, zl (x.getD j 0) ≤ k) {m j : Nat} (hj : j < n) : QB (wF ts x m j) (2 * k + 4) := QB.mono (QB.sub2 (QB.int (hx (m - j))) (h.a hj)) (by omega)
theorem bsF_b {D : List Int} {L : List (List Int)} {ts : List (Int × Int)} {n k : Nat} (h : TrS D L ts n k) {x : List Int} (hx : ∀ j, zl (x.getD j 0) ≤ k) {m i : Nat} : ∀ {t : Nat}, i + 1 + t ≤ n → QB (bsF D L ts x m i t) (1 + t * (3 * k + 5))
  | 0, _ => QB.mono (QB.int (z := 0) (k := 0) (by rw [zl_zero]; exact Nat.le_refl _)) (by omega)
  | t + 1, ht => by
    have h1 := bsF_b h hx (m := m) (i := i) (t := t) (by omega)
    have h2 := QB.add2 h1 (QB.mul2 (wF_b h hx (m := m) (j := i + 1 + t) (by omega)) (h.mu (i := i + 1 + t) (j := i) (by omega) (by omega)))
    refine QB.mono h2 ?_
    have e : (t + 1) * (3 * k + 5) = t * (3 * k + 5) + (3 * k + 5) := Nat.succ_mul _ _
    omega
theorem bsF_b' {D : List Int} {L : List (List Int)} {ts : List (Int × Int)} {n k : Nat} (h : TrS D L ts n k) {x : List Int} (hx : ∀ j, zl (x.getD j 0) ≤ k) {m i t : Nat} (ht : i + 1 + t ≤ n) : QB (bsF D L ts x m i t) 67108864 := by
  have h2 := h.hk
  have h3 := h.twelve
  have h4 : t * (3 * k + 5) ≤ 11 * 3145733 := Nat.mul_le_mul (by omega) (by omega)
  exact QB.mono (bsF_b h hx ht) (by omega)
theorem nmF_b {D : List Int} {L : List (List Int)} {ts : List (Int × Int)} {n k : Nat} (h : TrS D L ts n k) {x : List Int} (hx : ∀ j, zl (x.getD j 0) ≤ k) {i0 : Nat} : ∀ {t : Nat}, i0 + t ≤ n → QB (nmF D L ts x (n - 1) i0 t) (1 + t * 142606346)
  | 0, _ => QB.mono (QB.int (z := 0) (k := 0) (by rw [zl_zero]; exact Nat.le_refl _)) (by omega)
  | t + 1, ht => by
    have h1 := nmF_b h hx (i0 := i0) (t := t) (by omega)
    have h2 := QB.add2 (wF_b h hx (m := n - 1) (j := i0 + t) (by omega)) (bsF_b' h hx (m := n - 1) (i := i0 + t) (t := n - 1 - (i0 + t)) (by omega))
    have h3 := QB.add2 h1 (QB.mul2 (QB.mul2 h2 h2) (h.st (i := i0 + t) (by omega)))
    refine QB.mono h3 ?_
    have h4 := h.hk
    have e : (t + 1) * 142606346 = t * 142606346 + 142606346 := Nat.succ_mul _ _
    omega
theorem nmF_b' {D : List Int} {L : List (List Int)} {ts : List (Int × Int)} {n k : Nat} (h : TrS D L ts n k) {x : List Int} (hx : ∀ j, zl (x.getD j 0) ≤ k) {i0 t : Nat} (ht : i0 + t ≤ n) : QB (nmF D L ts x (n - 1) i0 t) 2147483648 := by
  have h3 := h.twelve
  have h4 : t * 142606346 ≤ 12 * 142606346 := Nat.mul_le_mul_right _ (by omega)
  exact QB.mono (nmF_b h hx ht) (by omega)
/-- The norm of a suffix, of at most twelve rows. -/
theorem f_Norm12 {D : List Int} {L : List (List Int)} {ts : List (Int × Int)} {n k : Nat} {x : List Int} (h : TrS D L ts n k) (hx : ∀ j, zl (x.getD j 0) ≤ k) (hxl : x.length ≤ n) : Fn Tryz.prog 11 [T.G D L k, T.l (cQi k) ts, T.l (cZi k) x] [] [] [] (T.tup [T.Q (nmF D L ts x (n - 1) (n - x.length) x.length) 2147483648, T.c (.int .i64 0)]) := by
  have h3 := h.twelve
  exact f_Norm h.tl (by omega) hxl h.hk h.good h.len (Nat.le_refl _) (fun i t _ h2 => QB.mono (bsF_b' h hx h2) (by decide)) (fun t ht => nmF_b' h hx (by omega)) h.tp
theorem plain_T : TrS [1, 1] [[]] [] 1 2 where
  good := ⟨by decide, by decide, by decide, fun i hi => by rw [show i = 0 by simp at hi; omega]; decide⟩
  len := rfl
  twelve := by decide
  tl := .inl rfl
  tp := fun i hi => absurd hi (Nat.not_lt_zero _)
  zt := fun i hi => absurd hi (Nat.not_lt_zero _)
  zD := fun j => by
    match j with
    | 0 => exact Nat.le_trans zl_one (by decide)
    | 1 => exact Nat.le_trans zl_one (by decide)
    | j + 2 => rw [show ([1, 1] : List Int).getD (j + 2) 0 = 0 from rfl, zl_zero]; decide
  zL := fun i j => by
    have : ((([[]] : List (List Int)).getD j [] : List Int).getD i 0) = 0 := by
      cases j <;> rfl
    rw [this, zl_zero]; decide
  hk := by decide
theorem three_z : ∀ j, zl (([3] : List Int).getD j 0) ≤ 2 := fun j => by
  match j with
  | 0 => exact Nat.le_trans (zl_one' (by decide)) (by decide)
  | j + 1 => rw [show ([3] : List Int).getD (j + 1) 0 = 0 from rfl, zl_zero]; decide
theorem nine : nmF [1, 1] [[]] [] [3] (1 - 1) (1 - ([3] : List Int).length) ([3] : List Int).length = ((9 : Int) : Rat) := by
  show (0 : Rat) + ((((3 : Int) : Rat) - aqT [] 0) + 0) * ((((3 : Int) : Rat) - aqT [] 0) + 0) * (((1 : Int) : Rat) / ((1 : Int) : Rat)) = _
  rw [show aqT [] 0 = 0 from rfl]
  show (0 : Rat) + ((3 - 0) + 0) * ((3 - 0) + 0) * (1 / 1) = 9
  grind
theorem nine_d : dig (9 : Int).natAbs = [9] := by
  rw [show (9 : Int).natAbs = 9 from rfl]
  rw [dig_pos (by decide), show 9 / 4294967296 = 0 from rfl, dig_zero]
  rfl

theorem nine_box {et : TypeId} : (Ent.box et [T.Q ((9 : Int) : Rat) 2147483648]).le (Ent.box et [T.c (.bool false), T.l cU [9], T.Z 1 2147483648]) := fun β u w v F ⟨b, cs, h1, h2, h3, v', rest, _, ⟨cs', e1, w1, r1, _, ⟨_, _, cs1, e3, hc1⟩, e4, w2, r2, k2, hw2, e5, e6⟩, e2, e7⟩ => ⟨b, cs, h1, h2, h3, by
  subst e1 e7 e6
  rw [List.append_nil] at e2 e5
  simp only [Value.cells] at e2
  rw [e2, e4, e5, e3]
  simp only [Value.cells]
  have hc : Cells β u ([T.c (.bool false), T.l cU [9]] ++ [T.Z 1 2147483648]) (cs1 ++ w2.cells.toList) := Cells.append (by rw [← nine_d]; exact hc1) ⟨w2, [], k2, hw2, (List.append_nil _).symm, rfl⟩
  exact hc⟩

theorem l10_alive  : Fn Tryz.prog 23 [] [] [] [] (T.c (.bool true)) := by
  refine fn_of Tryz.func23 rfl (by show 0 ≤ 44; decide) fun cx hcx => ?_
  refine tri_sub sn en ?_
  have hgl : (T.st [T.l (cZ 2) [1, 1], T.l (cL (cZ 2)) [[]]]).le (T.G [1, 1] [[]] 2) := g_le
  have h9 : zl 9 ≤ 2 := Nat.le_trans (zl_one' (by decide)) (by decide)
  have hzs : (T.st [T.c (.bool false), T.l cU [9]]).le (T.Z 9 2) := by have := @z_st 9 2 h9; rw [nine_d] at this; exact this
  have hN := fn_out (f_Norm12 (x := [3]) plain_T three_z (by decide)) (tup_le (l' := [T.Q ((9 : Int) : Rat) 2147483648, T.c (.int .i64 0)]) ⟨q_eq nine (Nat.le_refl _), .refl _, trivial⟩)
  refine tri_seq ?_
  refine tri_reg mixed hcx ?_ _ _
  refine asg rfl ?_
  refine ⟨by kernel_rfl, ?_⟩
  refine nx sn en ?_
  refine tri_seq ?_
  refine tri_reg mixed hcx ?_ _ _
  refine asg rfl ?_
  refine ⟨by kernel_rfl, ?_⟩
  refine nx (sl 1 rfl sn) en ?_
  refine tri_seq ?_
  refine tri_reg mixed hcx ?_ _ _
  refine mv rfl ?_
  refine ca rfl (h := zi_Of (by omega) (by omega)) (hn := ?_)
  refine bs (c := cZ 2) (xs := [3]) slZs rfl ⟨.refl _, trivial⟩ ?_
  refine apn (c := cZ 2) 213 rfl rfl slZs (by decide) (by decide) ?_
  refine asg rfl ?_
  refine ⟨by kernel_rfl, ?_⟩
  refine nx (sl 1 rfl sn) (el 213 rfl en) ?_
  refine tri_seq ?_
  refine tri_fz 213 rfl ?_
  refine tri_rd 1 213 rfl rfl ?_
  refine tri_reg mixed hcx ?_ _ _
  refine ca rfl (h := l10_plain) (hn := ?_)
  refine mv rfl ?_
  refine ca rfl (h := hN) (hn := ?_)
  refine mv rfl ?_
  refine ex rfl rfl ?_
  refine ex rfl rfl ?_
  refine nw 316 zeQ ?_
  refine st rfl rfl rfl tyQ rfl ?_
  refine asg rfl ?_
  refine ⟨by kernel_rfl, ?_⟩
  refine nx (sl 2 rfl (sl 3 rfl sn)) (el 316 rfl en) ?_
  refine tri_seq ?_
  refine tri_reg mixed hcx ?_ _ _
  refine ca rfl (h := l10_plain) (hn := ?_)
  refine ca rfl (h := f_New plain_T.good rfl (by decide) (.inl rfl) plain_T.tp (k := 2) (by decide)) (hn := ?_)
  refine mv rfl ?_
  refine ex rfl rfl ?_
  refine ex rfl rfl ?_
  refine asg rfl ?_
  refine asg rfl ?_
  refine ⟨by kernel_rfl, ?_⟩
  refine nx (sl 2 rfl (sl 3 rfl (sl 4 rfl (sl 5 rfl sn)))) (el 316 rfl en) ?_
  refine tri_seq ?_
  refine tri_sub (sl 2 rfl (sl 3 rfl (sl 4 rfl (sl 5 rfl sn)))) (ew 316 rfl nine_box en) ?_
  refine tri_reg mixed hcx ?_ _ _
  refine mv rfl ?_
  refine ceq rfl rfl (decide_eq_true (by omega)) ?_
  refine mv rfl ?_
  refine mv rfl ?_ (hg := gd1)
  refine ceq rfl rfl (decide_eq_true (by omega)) ?_ (hg := gd1)
  refine pk rfl rfl ?_
  refine mv rfl ?_
  refine mv rfl ?_ (hg := gd1)
  refine pne rfl rfl uPF ?_ (hg := gd1)
  refine pk rfl rfl ?_
  refine mv rfl ?_
  refine fa rfl fNum 0 ?_ (hg := gd1)
  refine ld rfl rfl tyZ rfl ?_ (hg := gd1)
  refine ca rfl (h := zi_Of (by omega) (by omega)) (hn := ?_) (hg := gd1)
  refine ca rfl (h := l10_eq (z := 9) (k := 2) (l := 2) (by decide)) (hn := ?_) (hg := gd1)
  refine pk rfl rfl ?_
  refine mv rfl ?_
  refine fa rfl fNum 0 ?_ (hg := gd1)
  refine fa rfl fMag 1 ?_ (hg := gd1)
  refine ld rfl rfl tyLs rfl ?_ (hg := gd1)
  refine ln slLs rfl ?_ (hg := gd1)
  refine ceq rfl rfl (decide_eq_true rfl) ?_ (hg := gd1)
  refine pk rfl rfl ?_
  refine asg rfl ?_
  refine ⟨by kernel_rfl, ?_⟩
  refine nx (sl 0 rfl sn) (el 316 rfl en) ?_
  refine tri_ret ?_
  repeat (first | refine pn_thenr ?_ | refine pn_blkr ?_)
  exact ret1 hcx rfl (rv_tmp rfl) (.refl _) en
end Go.Proofs.YtffnfbhhjjbjbaaGreat.V
/- The law of the filter that no call made. -/
set_option linter.unusedVariables false
set_option linter.unusedSimpArgs false
set_option maxRecDepth 100000
namespace Go.Proofs.YtffnfbhhjjbjbaaGreat.V
open Go.RowKit Mt Nml
theorem tyPP : Ty Tryz.prog 50 false 1 := ⟨by kernel_rfl, by kernel_rfl⟩
theorem fFp : FieldT Tryz.prog 70 0 0 false 1 := FieldT.mk' tyPP
theorem uPP : Tryz.prog.underlying 50 = some (.pointer 133) := by kernel_rfl
theorem zeFi : Zero Tryz.prog 70 [T.c (.pointer none), T.c (.int .u32 0), T.c (.int .i32 0), T.c (.int .u32 0), T.c (.slice none 0 0), T.c (.slice none 0 0), T.c (.slice none 0 0), T.c (.int .i64 0), T.c (.int .i64 0)] := zero_of (zs := [.pointer none, .int .u32 0, .int .i32 0, .int .u32 0, .slice none 0 0, .slice none 0 0, .slice none 0 0, .int .i64 0, .int .i64 0]) (z := .agg #[.pointer none, .int .u32 0, .int .i32 0, .int .u32 0, .slice none 0 0, .slice none 0 0, .slice none 0 0, .int .i64 0, .int .i64 0]) (by kernel_rfl)

theorem fz_none_n  : Fn Tryz.prog 90 [T.c (.pointer none)] [] [] [] (T.c (.bool true)) := by
  refine fn_of Tryz.func90 rfl (by show 1 ≤ 12; decide) fun cx hcx => ?_
  refine tri_sub (sl 0 rfl sn) en ?_
  refine tri_seq ?_
  refine tri_reg mixed hcx ?_ _ _
  refine asg rfl ?_
  refine ⟨by kernel_rfl, ?_⟩
  refine nx (sl 0 rfl sn) en ?_
  refine tri_seq ?_
  refine tri_reg mixed hcx ?_ _ _
  refine mv rfl ?_
  refine pqn rfl rfl uPF ?_
  refine mv rfl ?_
  refine j_off rfl rfl rfl rfl ?_
  refine j_off rfl rfl rfl rfl ?_
  refine j_off rfl rfl rfl rfl ?_
  refine j_off rfl rfl rfl rfl ?_
  refine j_off rfl rfl rfl rfl ?_
  refine pk rfl rfl ?_
  refine asg rfl ?_
  refine ⟨by kernel_rfl, ?_⟩
  refine nx (sl 2 rfl sn) en ?_
  refine tri_ret ?_
  repeat (first | refine pn_thenr ?_ | refine pn_blkr ?_)
  exact ret1 hcx rfl (rv_tmp rfl) (.refl _) en

theorem fz_wrong_n {x : List Int} {k : Nat}  : Fn Tryz.prog 85 [T.c (.pointer none), T.l (cZi k) x] [] [] [] (T.c (.int .i64 7)) := by
  refine fn_of Tryz.func85 rfl (by show 2 ≤ 19; decide) fun cx hcx => ?_
  refine tri_sub (sl 0 rfl (sl 1 rfl sn)) en ?_
  refine tri_seq ?_
  refine tri_reg mixed hcx ?_ _ _
  refine asg rfl ?_
  refine ⟨by kernel_rfl, ?_⟩
  refine nx (sl 0 rfl (sl 1 rfl sn)) en ?_
  refine tri_seq ?_
  refine tri_block ?_
  refine tri_seq ?_
  refine tri_reg mixed hcx ?_ _ _
  refine mv rfl ?_
  refine ca rfl (h := fz_none_n) (hn := ?_)
  refine asg rfl ?_
  refine ⟨by kernel_rfl, ?_⟩
  refine nx (sl 0 rfl (sl 1 rfl (sl 5 rfl sn))) en ?_
  refine tri_true rfl rfl ?_
  refine tri_seq ?_
  refine tri_reg mixed hcx ?_ _ _
  refine asg rfl ?_
  refine ⟨by kernel_rfl, ?_⟩
  refine nx (sl 4 rfl sn) en ?_
  refine tri_ret ?_
  repeat (first | refine pn_thenr ?_ | refine pn_blkr ?_)
  exact ret1 hcx rfl (rv_tmp rfl) (.refl _) en

theorem fz_Enclose_n {x : List Int} {k : Nat}  : Fn Tryz.prog 24 [T.c (.pointer none), T.l (cZi k) x] [] [] [] (T.tup [T.st [T.c (.float .f64 0), T.c (.float .f64 0)], T.c (.int .i64 7)]) := by
  refine fn_of Tryz.func24 rfl (by show 2 ≤ 17; decide) fun cx hcx => ?_
  refine tri_sub (sl 0 rfl (sl 1 rfl sn)) en ?_
  refine tri_seq ?_
  refine tri_reg mixed hcx ?_ _ _
  refine nw 10 zeV ?_
  refine asg rfl ?_
  refine ⟨by kernel_rfl, ?_⟩
  refine nx (sl 0 rfl (sl 1 rfl (sl 4 rfl sn))) (el 10 rfl en) ?_
  refine tri_seq ?_
  refine tri_seq ?_
  refine tri_reg mixed hcx ?_ _ _
  refine mv rfl ?_
  refine mv rfl ?_
  refine ca rfl (h := fz_wrong_n) (hn := ?_)
  refine asg rfl ?_
  refine ⟨by kernel_rfl, ?_⟩
  refine nx (sl 0 rfl (sl 1 rfl (sl 4 rfl (sl 6 rfl sn)))) (el 10 rfl en) ?_
  refine tri_seq ?_
  refine tri_reg mixed hcx ?_ _ _
  refine mv rfl ?_
  refine cne rfl rfl (decide_eq_true (by omega)) ?_
  refine ⟨by kernel_rfl, ?_⟩
  refine nx (sl 0 rfl (sl 1 rfl (sl 4 rfl (sl 6 rfl (sl 11 rfl sn))))) (el 10 rfl en) ?_
  refine tri_true rfl rfl ?_
  refine tri_seq ?_
  refine tri_reg mixed hcx ?_ _ _
  refine bu stV rfl ?_
  refine mv rfl ?_
  refine sts rfl rfl rfl tyV rfl ?_
  refine asg rfl ?_
  refine ⟨by kernel_rfl, ?_⟩
  refine nx (sl 4 rfl (sl 5 rfl sn)) (el 10 rfl en) ?_
  refine tri_ret ?_
  repeat (first | refine pn_thenr ?_ | refine pn_blkr ?_)
  exact ret2 hcx rfl (rv_cell (c' := cx) (n := 0) rfl rfl tyV rfl) (rv_tmp rfl) (.refl _) en

theorem fz_Test_n {x : List Int} {c d : Int} {k l : Nat}  : Fn Tryz.prog 25 [T.c (.pointer none), T.l (cZi k) x, T.Qi c d l] [] [] [] (T.tup [T.c (.int .i64 0), T.c (.int .i64 7)]) := by
  refine fn_of Tryz.func25 rfl (by show 3 ≤ 40; decide) fun cx hcx => ?_
  refine tri_sub (sl 0 rfl (sl 1 rfl (sl 2 rfl sn))) en ?_
  refine tri_seq ?_
  refine tri_reg mixed hcx ?_ _ _
  refine bxs 10 rfl ?_
  refine asg rfl ?_
  refine asg rfl ?_
  refine ⟨by kernel_rfl, ?_⟩
  refine nx (sl 0 rfl (sl 1 rfl (sl 5 rfl sn))) (el 10 rfl en) ?_
  refine tri_seq ?_
  refine tri_seq ?_
  refine tri_reg mixed hcx ?_ _ _
  refine mv rfl ?_
  refine mv rfl ?_
  refine ca rfl (h := fz_wrong_n) (hn := ?_)
  refine asg rfl ?_
  refine ⟨by kernel_rfl, ?_⟩
  refine nx (sl 0 rfl (sl 1 rfl (sl 5 rfl (sl 8 rfl sn)))) (el 10 rfl en) ?_
  refine tri_seq ?_
  refine tri_reg mixed hcx ?_ _ _
  refine mv rfl ?_
  refine cne rfl rfl (decide_eq_true (by omega)) ?_
  refine ⟨by kernel_rfl, ?_⟩
  refine nx (sl 0 rfl (sl 1 rfl (sl 5 rfl (sl 8 rfl (sl 16 rfl sn))))) (el 10 rfl en) ?_
  refine tri_true rfl rfl ?_
  refine tri_seq ?_
  refine tri_reg mixed hcx ?_ _ _
  refine mv rfl ?_
  refine asg rfl ?_
  refine asg rfl ?_
  refine ⟨by kernel_rfl, ?_⟩
  refine nx (sl 6 rfl (sl 7 rfl sn)) (el 10 rfl en) ?_
  refine tri_ret ?_
  repeat (first | refine pn_thenr ?_ | refine pn_blkr ?_)
  exact ret2 hcx rfl (rv_tmp rfl) (rv_tmp rfl) (.refl _) en

theorem fz_Decide_n {x : List Int} {c d : Int} {k l : Nat}  : Fn Tryz.prog 26 [T.c (.pointer none), T.l (cZi k) x, T.Qi c d l] [] [] [] (T.tup [T.c (.bool false), T.c (.int .i64 7)]) := by
  refine fn_of Tryz.func26 rfl (by show 3 ≤ 47; decide) fun cx hcx => ?_
  refine tri_sub (sl 0 rfl (sl 1 rfl (sl 2 rfl sn))) en ?_
  refine tri_seq ?_
  refine tri_reg mixed hcx ?_ _ _
  refine bxs 10 rfl ?_
  refine asg rfl ?_
  refine asg rfl ?_
  refine ⟨by kernel_rfl, ?_⟩
  refine nx (sl 0 rfl (sl 1 rfl (sl 5 rfl sn))) (el 10 rfl en) ?_
  refine tri_seq ?_
  refine tri_reg mixed hcx ?_ _ _
  refine mv rfl ?_
  refine mv rfl ?_
  refine ld rfl rfl tyQ rfl ?_
  refine ca rfl (h := fz_Test_n) (hn := ?_)
  refine mv rfl ?_
  refine ex rfl rfl ?_
  refine ex rfl rfl ?_
  refine asg rfl ?_
  refine asg rfl ?_
  refine ⟨by kernel_rfl, ?_⟩
  refine nx (sl 0 rfl (sl 1 rfl (sl 5 rfl (sl 8 rfl (sl 9 rfl sn))))) (el 10 rfl en) ?_
  refine tri_seq ?_
  refine tri_seq ?_
  refine tri_reg mixed hcx ?_ _ _
  refine mv rfl ?_
  refine cne rfl rfl (decide_eq_true (by omega)) ?_
  refine ⟨by kernel_rfl, ?_⟩
  refine nx (sl 0 rfl (sl 1 rfl (sl 5 rfl (sl 8 rfl (sl 9 rfl (sl 20 rfl sn)))))) (el 10 rfl en) ?_
  refine tri_true rfl rfl ?_
  refine tri_seq ?_
  refine tri_reg mixed hcx ?_ _ _
  refine mv rfl ?_
  refine asg rfl ?_
  refine asg rfl ?_
  refine ⟨by kernel_rfl, ?_⟩
  refine nx (sl 6 rfl (sl 7 rfl sn)) (el 10 rfl en) ?_
  refine tri_ret ?_
  repeat (first | refine pn_thenr ?_ | refine pn_blkr ?_)
  exact ret2 hcx rfl (rv_tmp rfl) (rv_tmp rfl) (.refl _) en

theorem fz_Counts_n  : Fn Tryz.prog 27 [T.c (.pointer none)] [] [] [] (T.tup [T.c (.int .i64 0), T.c (.int .i64 0)]) := by
  refine fn_of Tryz.func27 rfl (by show 1 ≤ 14; decide) fun cx hcx => ?_
  refine tri_sub (sl 0 rfl sn) en ?_
  refine tri_seq ?_
  refine tri_reg mixed hcx ?_ _ _
  refine asg rfl ?_
  refine asg rfl ?_
  refine ⟨by kernel_rfl, ?_⟩
  refine nx (sl 0 rfl sn) en ?_
  refine tri_seq ?_
  refine tri_seq ?_
  refine tri_reg mixed hcx ?_ _ _
  refine mv rfl ?_
  refine ca rfl (h := fz_none_n) (hn := ?_)
  refine ⟨by kernel_rfl, ?_⟩
  refine nx (sl 0 rfl (sl 5 rfl sn)) en ?_
  refine tri_true rfl rfl ?_
  refine tri_seq ?_
  refine tri_reg mixed hcx ?_ _ _
  refine asg rfl ?_
  refine asg rfl ?_
  refine ⟨by kernel_rfl, ?_⟩
  refine nx (sl 2 rfl (sl 3 rfl sn)) en ?_
  refine tri_ret ?_
  repeat (first | refine pn_thenr ?_ | refine pn_blkr ?_)
  exact ret2 hcx rfl (rv_tmp rfl) (rv_tmp rfl) (.refl _) en

theorem fz_Reset_n  : Fn Tryz.prog 29 [T.c (.pointer none)] [] [] [] (T.c (.int .i64 7)) := by
  refine fn_of Tryz.func29 rfl (by show 1 ≤ 13; decide) fun cx hcx => ?_
  refine tri_sub (sl 0 rfl sn) en ?_
  refine tri_seq ?_
  refine tri_reg mixed hcx ?_ _ _
  refine asg rfl ?_
  refine ⟨by kernel_rfl, ?_⟩
  refine nx (sl 0 rfl sn) en ?_
  refine tri_seq ?_
  refine tri_seq ?_
  refine tri_reg mixed hcx ?_ _ _
  refine mv rfl ?_
  refine ca rfl (h := fz_none_n) (hn := ?_)
  refine ⟨by kernel_rfl, ?_⟩
  refine nx (sl 0 rfl (sl 4 rfl sn)) en ?_
  refine tri_true rfl rfl ?_
  refine tri_seq ?_
  refine tri_reg mixed hcx ?_ _ _
  refine asg rfl ?_
  refine ⟨by kernel_rfl, ?_⟩
  refine nx (sl 2 rfl sn) en ?_
  refine tri_ret ?_
  repeat (first | refine pn_thenr ?_ | refine pn_blkr ?_)
  exact ret1 hcx rfl (rv_tmp rfl) (.refl _) en

theorem fz_none_z  : Fn Tryz.prog 90 [T.fp (T.st [T.c (.pointer none), T.c (.int .u32 0), T.c (.int .i32 0), T.c (.int .u32 0), T.c (.slice none 0 0), T.c (.slice none 0 0), T.c (.slice none 0 0), T.c (.int .i64 0), T.c (.int .i64 0)])] [] [] [] (T.c (.bool true)) := by
  refine fn_of Tryz.func90 rfl (by show 1 ≤ 12; decide) fun cx hcx => ?_
  refine tri_sub (sl 0 rfl sn) en ?_
  refine tri_seq ?_
  refine tri_reg mixed hcx ?_ _ _
  refine asg rfl ?_
  refine ⟨by kernel_rfl, ?_⟩
  refine nx (sl 0 rfl sn) en ?_
  refine tri_seq ?_
  refine tri_reg mixed hcx ?_ _ _
  refine mv rfl ?_
  refine peq rfl rfl uPF ?_
  refine mv rfl ?_
  refine mv rfl ?_ (hg := gd1)
  refine nk rfl ?_ (hg := gd1)
  refine ff rfl fFp rfl ?_ (hg := gd1)
  refine lf rfl tyPP ?_ (hg := gd1)
  refine pqn rfl rfl uPP ?_ (hg := gd1)
  refine pk rfl rfl ?_
  refine asg rfl ?_
  refine ⟨by kernel_rfl, ?_⟩
  refine nx (sl 2 rfl sn) en ?_
  refine tri_ret ?_
  repeat (first | refine pn_thenr ?_ | refine pn_blkr ?_)
  exact ret1 hcx rfl (rv_tmp rfl) (.refl _) en

theorem fz_wrong_z {x : List Int} {k : Nat}  : Fn Tryz.prog 85 [T.fp (T.st [T.c (.pointer none), T.c (.int .u32 0), T.c (.int .i32 0), T.c (.int .u32 0), T.c (.slice none 0 0), T.c (.slice none 0 0), T.c (.slice none 0 0), T.c (.int .i64 0), T.c (.int .i64 0)]), T.l (cZi k) x] [] [] [] (T.c (.int .i64 7)) := by
  refine fn_of Tryz.func85 rfl (by show 2 ≤ 19; decide) fun cx hcx => ?_
  refine tri_sub (sl 0 rfl (sl 1 rfl sn)) en ?_
  refine tri_seq ?_
  refine tri_reg mixed hcx ?_ _ _
  refine asg rfl ?_
  refine ⟨by kernel_rfl, ?_⟩
  refine nx (sl 0 rfl (sl 1 rfl sn)) en ?_
  refine tri_seq ?_
  refine tri_block ?_
  refine tri_seq ?_
  refine tri_reg mixed hcx ?_ _ _
  refine mv rfl ?_
  refine ca rfl (h := fz_none_z) (hn := ?_)
  refine asg rfl ?_
  refine ⟨by kernel_rfl, ?_⟩
  refine nx (sl 0 rfl (sl 1 rfl (sl 5 rfl sn))) en ?_
  refine tri_true rfl rfl ?_
  refine tri_seq ?_
  refine tri_reg mixed hcx ?_ _ _
  refine asg rfl ?_
  refine ⟨by kernel_rfl, ?_⟩
  refine nx (sl 4 rfl sn) en ?_
  refine tri_ret ?_
  repeat (first | refine pn_thenr ?_ | refine pn_blkr ?_)
  exact ret1 hcx rfl (rv_tmp rfl) (.refl _) en

theorem fz_Enclose_z {x : List Int} {k : Nat}  : Fn Tryz.prog 24 [T.fp (T.st [T.c (.pointer none), T.c (.int .u32 0), T.c (.int .i32 0), T.c (.int .u32 0), T.c (.slice none 0 0), T.c (.slice none 0 0), T.c (.slice none 0 0), T.c (.int .i64 0), T.c (.int .i64 0)]), T.l (cZi k) x] [] [] [] (T.tup [T.st [T.c (.float .f64 0), T.c (.float .f64 0)], T.c (.int .i64 7)]) := by
  refine fn_of Tryz.func24 rfl (by show 2 ≤ 17; decide) fun cx hcx => ?_
  refine tri_sub (sl 0 rfl (sl 1 rfl sn)) en ?_
  refine tri_seq ?_
  refine tri_reg mixed hcx ?_ _ _
  refine nw 10 zeV ?_
  refine asg rfl ?_
  refine ⟨by kernel_rfl, ?_⟩
  refine nx (sl 0 rfl (sl 1 rfl (sl 4 rfl sn))) (el 10 rfl en) ?_
  refine tri_seq ?_
  refine tri_seq ?_
  refine tri_reg mixed hcx ?_ _ _
  refine mv rfl ?_
  refine mv rfl ?_
  refine ca rfl (h := fz_wrong_z) (hn := ?_)
  refine asg rfl ?_
  refine ⟨by kernel_rfl, ?_⟩
  refine nx (sl 0 rfl (sl 1 rfl (sl 4 rfl (sl 6 rfl sn)))) (el 10 rfl en) ?_
  refine tri_seq ?_
  refine tri_reg mixed hcx ?_ _ _
  refine mv rfl ?_
  refine cne rfl rfl (decide_eq_true (by omega)) ?_
  refine ⟨by kernel_rfl, ?_⟩
  refine nx (sl 0 rfl (sl 1 rfl (sl 4 rfl (sl 6 rfl (sl 11 rfl sn))))) (el 10 rfl en) ?_
  refine tri_true rfl rfl ?_
  refine tri_seq ?_
  refine tri_reg mixed hcx ?_ _ _
  refine bu stV rfl ?_
  refine mv rfl ?_
  refine sts rfl rfl rfl tyV rfl ?_
  refine asg rfl ?_
  refine ⟨by kernel_rfl, ?_⟩
  refine nx (sl 4 rfl (sl 5 rfl sn)) (el 10 rfl en) ?_
  refine tri_ret ?_
  repeat (first | refine pn_thenr ?_ | refine pn_blkr ?_)
  exact ret2 hcx rfl (rv_cell (c' := cx) (n := 0) rfl rfl tyV rfl) (rv_tmp rfl) (.refl _) en

theorem fz_Test_z {x : List Int} {c d : Int} {k l : Nat}  : Fn Tryz.prog 25 [T.fp (T.st [T.c (.pointer none), T.c (.int .u32 0), T.c (.int .i32 0), T.c (.int .u32 0), T.c (.slice none 0 0), T.c (.slice none 0 0), T.c (.slice none 0 0), T.c (.int .i64 0), T.c (.int .i64 0)]), T.l (cZi k) x, T.Qi c d l] [] [] [] (T.tup [T.c (.int .i64 0), T.c (.int .i64 7)]) := by
  refine fn_of Tryz.func25 rfl (by show 3 ≤ 40; decide) fun cx hcx => ?_
  refine tri_sub (sl 0 rfl (sl 1 rfl (sl 2 rfl sn))) en ?_
  refine tri_seq ?_
  refine tri_reg mixed hcx ?_ _ _
  refine bxs 10 rfl ?_
  refine asg rfl ?_
  refine asg rfl ?_
  refine ⟨by kernel_rfl, ?_⟩
  refine nx (sl 0 rfl (sl 1 rfl (sl 5 rfl sn))) (el 10 rfl en) ?_
  refine tri_seq ?_
  refine tri_seq ?_
  refine tri_reg mixed hcx ?_ _ _
  refine mv rfl ?_
  refine mv rfl ?_
  refine ca rfl (h := fz_wrong_z) (hn := ?_)
  refine asg rfl ?_
  refine ⟨by kernel_rfl, ?_⟩
  refine nx (sl 0 rfl (sl 1 rfl (sl 5 rfl (sl 8 rfl sn)))) (el 10 rfl en) ?_
  refine tri_seq ?_
  refine tri_reg mixed hcx ?_ _ _
  refine mv rfl ?_
  refine cne rfl rfl (decide_eq_true (by omega)) ?_
  refine ⟨by kernel_rfl, ?_⟩
  refine nx (sl 0 rfl (sl 1 rfl (sl 5 rfl (sl 8 rfl (sl 16 rfl sn))))) (el 10 rfl en) ?_
  refine tri_true rfl rfl ?_
  refine tri_seq ?_
  refine tri_reg mixed hcx ?_ _ _
  refine mv rfl ?_
  refine asg rfl ?_
  refine asg rfl ?_
  refine ⟨by kernel_rfl, ?_⟩
  refine nx (sl 6 rfl (sl 7 rfl sn)) (el 10 rfl en) ?_
  refine tri_ret ?_
  repeat (first | refine pn_thenr ?_ | refine pn_blkr ?_)
  exact ret2 hcx rfl (rv_tmp rfl) (rv_tmp rfl) (.refl _) en

theorem fz_Decide_z {x : List Int} {c d : Int} {k l : Nat}  : Fn Tryz.prog 26 [T.fp (T.st [T.c (.pointer none), T.c (.int .u32 0), T.c (.int .i32 0), T.c (.int .u32 0), T.c (.slice none 0 0), T.c (.slice none 0 0), T.c (.slice none 0 0), T.c (.int .i64 0), T.c (.int .i64 0)]), T.l (cZi k) x, T.Qi c d l] [] [] [] (T.tup [T.c (.bool false), T.c (.int .i64 7)]) := by
  refine fn_of Tryz.func26 rfl (by show 3 ≤ 47; decide) fun cx hcx => ?_
  refine tri_sub (sl 0 rfl (sl 1 rfl (sl 2 rfl sn))) en ?_
  refine tri_seq ?_
  refine tri_reg mixed hcx ?_ _ _
  refine bxs 10 rfl ?_
  refine asg rfl ?_
  refine asg rfl ?_
  refine ⟨by kernel_rfl, ?_⟩
  refine nx (sl 0 rfl (sl 1 rfl (sl 5 rfl sn))) (el 10 rfl en) ?_
  refine tri_seq ?_
  refine tri_reg mixed hcx ?_ _ _
  refine mv rfl ?_
  refine mv rfl ?_
  refine ld rfl rfl tyQ rfl ?_
  refine ca rfl (h := fz_Test_z) (hn := ?_)
  refine mv rfl ?_
  refine ex rfl rfl ?_
  refine ex rfl rfl ?_
  refine asg rfl ?_
  refine asg rfl ?_
  refine ⟨by kernel_rfl, ?_⟩
  refine nx (sl 0 rfl (sl 1 rfl (sl 5 rfl (sl 8 rfl (sl 9 rfl sn))))) (el 10 rfl en) ?_
  refine tri_seq ?_
  refine tri_seq ?_
  refine tri_reg mixed hcx ?_ _ _
  refine mv rfl ?_
  refine cne rfl rfl (decide_eq_true (by omega)) ?_
  refine ⟨by kernel_rfl, ?_⟩
  refine nx (sl 0 rfl (sl 1 rfl (sl 5 rfl (sl 8 rfl (sl 9 rfl (sl 20 rfl sn)))))) (el 10 rfl en) ?_
  refine tri_true rfl rfl ?_
  refine tri_seq ?_
  refine tri_reg mixed hcx ?_ _ _
  refine mv rfl ?_
  refine asg rfl ?_
  refine asg rfl ?_
  refine ⟨by kernel_rfl, ?_⟩
  refine nx (sl 6 rfl (sl 7 rfl sn)) (el 10 rfl en) ?_
  refine tri_ret ?_
  repeat (first | refine pn_thenr ?_ | refine pn_blkr ?_)
  exact ret2 hcx rfl (rv_tmp rfl) (rv_tmp rfl) (.refl _) en

theorem fz_Counts_z  : Fn Tryz.prog 27 [T.fp (T.st [T.c (.pointer none), T.c (.int .u32 0), T.c (.int .i32 0), T.c (.int .u32 0), T.c (.slice none 0 0), T.c (.slice none 0 0), T.c (.slice none 0 0), T.c (.int .i64 0), T.c (.int .i64 0)])] [] [] [] (T.tup [T.c (.int .i64 0), T.c (.int .i64 0)]) := by
  refine fn_of Tryz.func27 rfl (by show 1 ≤ 14; decide) fun cx hcx => ?_
  refine tri_sub (sl 0 rfl sn) en ?_
  refine tri_seq ?_
  refine tri_reg mixed hcx ?_ _ _
  refine asg rfl ?_
  refine asg rfl ?_
  refine ⟨by kernel_rfl, ?_⟩
  refine nx (sl 0 rfl sn) en ?_
  refine tri_seq ?_
  refine tri_seq ?_
  refine tri_reg mixed hcx ?_ _ _
  refine mv rfl ?_
  refine ca rfl (h := fz_none_z) (hn := ?_)
  refine ⟨by kernel_rfl, ?_⟩
  refine nx (sl 0 rfl (sl 5 rfl sn)) en ?_
  refine tri_true rfl rfl ?_
  refine tri_seq ?_
  refine tri_reg mixed hcx ?_ _ _
  refine asg rfl ?_
  refine asg rfl ?_
  refine ⟨by kernel_rfl, ?_⟩
  refine nx (sl 2 rfl (sl 3 rfl sn)) en ?_
  refine tri_ret ?_
  repeat (first | refine pn_thenr ?_ | refine pn_blkr ?_)
  exact ret2 hcx rfl (rv_tmp rfl) (rv_tmp rfl) (.refl _) en

theorem fz_Reset_z  : Fn Tryz.prog 29 [T.fp (T.st [T.c (.pointer none), T.c (.int .u32 0), T.c (.int .i32 0), T.c (.int .u32 0), T.c (.slice none 0 0), T.c (.slice none 0 0), T.c (.slice none 0 0), T.c (.int .i64 0), T.c (.int .i64 0)])] [] [] [] (T.c (.int .i64 7)) := by
  refine fn_of Tryz.func29 rfl (by show 1 ≤ 13; decide) fun cx hcx => ?_
  refine tri_sub (sl 0 rfl sn) en ?_
  refine tri_seq ?_
  refine tri_reg mixed hcx ?_ _ _
  refine asg rfl ?_
  refine ⟨by kernel_rfl, ?_⟩
  refine nx (sl 0 rfl sn) en ?_
  refine tri_seq ?_
  refine tri_seq ?_
  refine tri_reg mixed hcx ?_ _ _
  refine mv rfl ?_
  refine ca rfl (h := fz_none_z) (hn := ?_)
  refine ⟨by kernel_rfl, ?_⟩
  refine nx (sl 0 rfl (sl 4 rfl sn)) en ?_
  refine tri_true rfl rfl ?_
  refine tri_seq ?_
  refine tri_reg mixed hcx ?_ _ _
  refine asg rfl ?_
  refine ⟨by kernel_rfl, ?_⟩
  refine nx (sl 2 rfl sn) en ?_
  refine tri_ret ?_
  repeat (first | refine pn_thenr ?_ | refine pn_blkr ?_)
  exact ret1 hcx rfl (rv_tmp rfl) (.refl _) en

theorem l10_ends  : Fn Tryz.prog 28 [T.c (.float .f64 0), T.c (.float .f64 0)] [] [] [] (T.c (.bool true)) := by
  refine fn_of Tryz.func28 rfl (by show 2 ≤ 18; decide) fun cx hcx => ?_
  refine tri_sub (sl 0 rfl (sl 1 rfl sn)) en ?_
  refine tri_seq ?_
  refine tri_reg mixed hcx ?_ _ _
  refine asg rfl ?_
  refine ⟨by kernel_rfl, ?_⟩
  refine nx (sl 0 rfl (sl 1 rfl sn)) en ?_
  refine tri_seq ?_
  refine tri_reg mixed hcx ?_ _ _
  refine mv rfl ?_
  refine xt rfl (run_f64bits _) ?_
  refine mv rfl ?_
  refine xt rfl (run_f64bits _) ?_
  refine ceq rfl rfl (decide_eq_true rfl) ?_
  refine mv rfl ?_
  refine j_off rfl rfl rfl rfl ?_
  refine j_off rfl rfl rfl rfl ?_
  refine j_off rfl rfl rfl rfl ?_
  refine j_ofu rfl rfl rfl ?_
  refine j_ofu rfl rfl rfl ?_
  refine j_off rfl rfl rfl rfl ?_
  refine pk rfl rfl ?_
  refine asg rfl ?_
  refine ⟨by kernel_rfl, ?_⟩
  refine nx (sl 4 rfl sn) en ?_
  refine tri_ret ?_
  repeat (first | refine pn_thenr ?_ | refine pn_blkr ?_)
  exact ret1 hcx rfl (rv_tmp rfl) (.refl _) en

theorem fzero_all {x : List Int} {c d : Int} {k l : Nat}  : Fn Tryz.prog 4 [T.l (cZi k) x, T.Qi c d l] [] [] [] (T.c (.bool true)) := by
  refine fn_of Tryz.func4 rfl (by show 2 ≤ 152; decide) fun cx hcx => ?_
  refine tri_sub (sl 0 rfl (sl 1 rfl sn)) en ?_
  refine tri_seq ?_
  refine tri_reg mixed hcx ?_ _ _
  refine bxs 10 rfl ?_
  refine asg rfl ?_
  refine ⟨by kernel_rfl, ?_⟩
  refine nx (sl 0 rfl (sl 3 rfl sn)) (el 10 rfl en) ?_
  refine tri_seq ?_
  refine tri_seq ?_
  refine tri_reg mixed hcx ?_ _ _
  refine ca rfl (h := l10_alive) (hn := ?_)
  refine nt rfl _ rfl ?_
  refine ⟨by kernel_rfl, ?_⟩
  refine nx (sl 0 rfl (sl 3 rfl (sl 24 rfl sn))) (el 10 rfl en) ?_
  refine tri_false rfl rfl ?_
  refine tri_skip ?_
  refine nx (sl 0 rfl (sl 3 rfl sn)) (el 10 rfl en) ?_
  refine tri_seq ?_
  refine tri_reg mixed hcx ?_ _ _
  refine asg rfl ?_
  refine ⟨by kernel_rfl, ?_⟩
  refine nx (sl 0 rfl (sl 3 rfl (sl 5 rfl sn))) (el 10 rfl en) ?_
  refine tri_seq ?_
  refine tri_reg mixed hcx ?_ _ _
  refine nw 410 zeFi ?_
  refine ⟨by kernel_rfl, ?_⟩
  refine nx (sl 0 rfl (sl 3 rfl (sl 5 rfl (sl 6 rfl sn)))) (el 10 rfl (el 410 rfl en)) ?_
  refine tri_seq ?_
  refine tri_fzb 6 410 rfl rfl (by show (9 : Nat) ≠ 0; decide) ?_
  refine tri_reg mixed hcx ?_ _ _
  refine mv rfl ?_
  refine mv rfl ?_
  refine ca rfl (h := fz_Enclose_n) (hn := ?_)
  refine mv rfl ?_
  refine ex rfl rfl ?_
  refine ex rfl rfl ?_
  refine nw 516 zeV ?_
  refine sts rfl rfl rfl tyV rfl ?_
  refine asg rfl ?_
  refine ⟨by kernel_rfl, ?_⟩
  refine nx (sl 0 rfl (sl 3 rfl (sl 5 rfl (sl 6 rfl (sl 7 rfl (sl 8 rfl sn)))))) (el 10 rfl (el 516 rfl en)) ?_
  refine tri_seq ?_
  refine tri_reg mixed hcx ?_ _ _
  refine mv rfl ?_
  refine ca rfl (h := fz_Enclose_z) (hn := ?_)
  refine mv rfl ?_
  refine ex rfl rfl ?_
  refine ex rfl rfl ?_
  refine nw 615 zeV ?_
  refine sts rfl rfl rfl tyV rfl ?_
  refine asg rfl ?_
  refine ⟨by kernel_rfl, ?_⟩
  refine nx (sl 0 rfl (sl 3 rfl (sl 5 rfl (sl 6 rfl (sl 7 rfl (sl 8 rfl (sl 9 rfl (sl 10 rfl sn)))))))) (el 10 rfl (el 516 rfl (el 615 rfl en))) ?_
  refine tri_seq ?_
  refine tri_reg mixed hcx ?_ _ _
  refine mv rfl ?_
  refine mv rfl ?_
  refine ld rfl rfl tyQ rfl ?_
  refine ca rfl (h := fz_Test_n) (hn := ?_)
  refine mv rfl ?_
  refine ex rfl rfl ?_
  refine ex rfl rfl ?_
  refine asg rfl ?_
  refine asg rfl ?_
  refine ⟨by kernel_rfl, ?_⟩
  refine nx (sl 0 rfl (sl 3 rfl (sl 5 rfl (sl 6 rfl (sl 7 rfl (sl 8 rfl (sl 9 rfl (sl 10 rfl (sl 11 rfl (sl 12 rfl sn)))))))))) (el 10 rfl (el 516 rfl (el 615 rfl en))) ?_
  refine tri_seq ?_
  refine tri_reg mixed hcx ?_ _ _
  refine mv rfl ?_
  refine ld rfl rfl tyQ rfl ?_
  refine ca rfl (h := fz_Test_z) (hn := ?_)
  refine mv rfl ?_
  refine ex rfl rfl ?_
  refine ex rfl rfl ?_
  refine asg rfl ?_
  refine asg rfl ?_
  refine ⟨by kernel_rfl, ?_⟩
  refine nx (sl 0 rfl (sl 3 rfl (sl 5 rfl (sl 6 rfl (sl 7 rfl (sl 8 rfl (sl 9 rfl (sl 10 rfl (sl 11 rfl (sl 12 rfl (sl 13 rfl (sl 14 rfl sn)))))))))))) (el 10 rfl (el 516 rfl (el 615 rfl en))) ?_
  refine tri_seq ?_
  refine tri_reg mixed hcx ?_ _ _
  refine mv rfl ?_
  refine mv rfl ?_
  refine ld rfl rfl tyQ rfl ?_
  refine ca rfl (h := fz_Decide_n) (hn := ?_)
  refine mv rfl ?_
  refine ex rfl rfl ?_
  refine ex rfl rfl ?_
  refine asg rfl ?_
  refine asg rfl ?_
  refine ⟨by kernel_rfl, ?_⟩
  refine nx (sl 0 rfl (sl 3 rfl (sl 5 rfl (sl 6 rfl (sl 7 rfl (sl 8 rfl (sl 9 rfl (sl 10 rfl (sl 11 rfl (sl 12 rfl (sl 13 rfl (sl 14 rfl (sl 15 rfl (sl 16 rfl sn)))))))))))))) (el 10 rfl (el 516 rfl (el 615 rfl en))) ?_
  refine tri_seq ?_
  refine tri_reg mixed hcx ?_ _ _
  refine mv rfl ?_
  refine ld rfl rfl tyQ rfl ?_
  refine ca rfl (h := fz_Decide_z) (hn := ?_)
  refine mv rfl ?_
  refine ex rfl rfl ?_
  refine ex rfl rfl ?_
  refine asg rfl ?_
  refine asg rfl ?_
  refine ⟨by kernel_rfl, ?_⟩
  refine nx (sl 5 rfl (sl 6 rfl (sl 7 rfl (sl 8 rfl (sl 9 rfl (sl 10 rfl (sl 11 rfl (sl 12 rfl (sl 13 rfl (sl 14 rfl (sl 15 rfl (sl 16 rfl (sl 17 rfl (sl 18 rfl sn)))))))))))))) (el 10 rfl (el 516 rfl (el 615 rfl en))) ?_
  refine tri_seq ?_
  refine tri_reg mixed hcx ?_ _ _
  refine mv rfl ?_
  refine ca rfl (h := fz_Counts_n) (hn := ?_)
  refine mv rfl ?_
  refine ex rfl rfl ?_
  refine ex rfl rfl ?_
  refine asg rfl ?_
  refine asg rfl ?_
  refine ⟨by kernel_rfl, ?_⟩
  refine nx (sl 5 rfl (sl 6 rfl (sl 7 rfl (sl 8 rfl (sl 9 rfl (sl 10 rfl (sl 11 rfl (sl 12 rfl (sl 13 rfl (sl 14 rfl (sl 15 rfl (sl 16 rfl (sl 17 rfl (sl 18 rfl (sl 19 rfl (sl 20 rfl sn)))))))))))))))) (el 10 rfl (el 516 rfl (el 615 rfl en))) ?_
  refine tri_seq ?_
  refine tri_reg mixed hcx ?_ _ _
  refine ca rfl (h := fz_Counts_z) (hn := ?_)
  refine mv rfl ?_
  refine ex rfl rfl ?_
  refine ex rfl rfl ?_
  refine asg rfl ?_
  refine asg rfl ?_
  refine ⟨by kernel_rfl, ?_⟩
  refine nx (sl 5 rfl (sl 6 rfl (sl 7 rfl (sl 8 rfl (sl 9 rfl (sl 10 rfl (sl 11 rfl (sl 12 rfl (sl 13 rfl (sl 14 rfl (sl 15 rfl (sl 16 rfl (sl 17 rfl (sl 18 rfl (sl 19 rfl (sl 20 rfl (sl 21 rfl (sl 22 rfl sn)))))))))))))))))) (el 10 rfl (el 516 rfl (el 615 rfl en))) ?_
  refine tri_seq ?_
  refine tri_seq ?_
  refine tri_reg mixed hcx ?_ _ _
  refine mv rfl ?_
  refine cne rfl rfl (decide_eq_false (by omega)) ?_
  refine mv rfl ?_
  refine mv rfl ?_ (hg := gd1)
  refine cne rfl rfl (decide_eq_false (by omega)) ?_ (hg := gd1)
  refine pk rfl rfl ?_
  refine mv rfl ?_
  refine mv rfl ?_ (hg := gd1)
  refine cne rfl rfl (decide_eq_false (by omega)) ?_ (hg := gd1)
  refine pk rfl rfl ?_
  refine mv rfl ?_
  refine mv rfl ?_ (hg := gd1)
  refine cne rfl rfl (decide_eq_false (by omega)) ?_ (hg := gd1)
  refine pk rfl rfl ?_
  refine mv rfl ?_
  refine mv rfl ?_ (hg := gd1)
  refine cne rfl rfl (decide_eq_false (by omega)) ?_ (hg := gd1)
  refine pk rfl rfl ?_
  refine mv rfl ?_
  refine mv rfl ?_ (hg := gd1)
  refine cne rfl rfl (decide_eq_false (by omega)) ?_ (hg := gd1)
  refine pk rfl rfl ?_
  refine ⟨by kernel_rfl, ?_⟩
  refine nx (sl 5 rfl (sl 6 rfl (sl 7 rfl (sl 9 rfl (sl 11 rfl (sl 13 rfl (sl 15 rfl (sl 17 rfl (sl 19 rfl (sl 20 rfl (sl 21 rfl (sl 22 rfl (sl 92 rfl sn))))))))))))) (el 10 rfl (el 516 rfl (el 615 rfl en))) ?_
  refine tri_false rfl rfl ?_
  refine tri_skip ?_
  refine nx (sl 5 rfl (sl 6 rfl (sl 7 rfl (sl 9 rfl (sl 11 rfl (sl 13 rfl (sl 15 rfl (sl 17 rfl (sl 19 rfl (sl 20 rfl (sl 21 rfl (sl 22 rfl sn)))))))))))) (el 10 rfl (el 516 rfl (el 615 rfl en))) ?_
  refine tri_seq ?_
  refine tri_reg mixed hcx ?_ _ _
  refine fa rfl fLo 0 ?_
  refine ld rfl rfl tyF rfl ?_
  refine caf rfl (h := l10_ends) (hn := ?_)
  refine mv rfl ?_
  refine fa rfl fHi 1 ?_ (hg := gd1)
  refine ld rfl rfl tyF rfl ?_ (hg := gd1)
  refine caf rfl (h := l10_ends) (hn := ?_) (hg := gd1)
  refine pk rfl rfl ?_
  refine mv rfl ?_
  refine fa rfl fLo 0 ?_ (hg := gd1)
  refine ld rfl rfl tyF rfl ?_ (hg := gd1)
  refine caf rfl (h := l10_ends) (hn := ?_) (hg := gd1)
  refine pk rfl rfl ?_
  refine mv rfl ?_
  refine fa rfl fHi 1 ?_ (hg := gd1)
  refine ld rfl rfl tyF rfl ?_ (hg := gd1)
  refine caf rfl (h := l10_ends) (hn := ?_) (hg := gd1)
  refine pk rfl rfl ?_
  refine mv rfl ?_
  refine mv rfl ?_ (hg := gd1)
  refine ceq rfl rfl (decide_eq_true (by omega)) ?_ (hg := gd1)
  refine pk rfl rfl ?_
  refine mv rfl ?_
  refine mv rfl ?_ (hg := gd1)
  refine ceq rfl rfl (decide_eq_true (by omega)) ?_ (hg := gd1)
  refine pk rfl rfl ?_
  refine mv rfl ?_
  refine mv rfl ?_ (hg := gd1)
  refine nt rfl _ rfl ?_ (hg := gd1)
  refine pk rfl rfl ?_
  refine mv rfl ?_
  refine mv rfl ?_ (hg := gd1)
  refine nt rfl _ rfl ?_ (hg := gd1)
  refine pk rfl rfl ?_
  refine mv rfl ?_
  refine mv rfl ?_ (hg := gd1)
  refine ceq rfl rfl (decide_eq_true (by omega)) ?_ (hg := gd1)
  refine pk rfl rfl ?_
  refine mv rfl ?_
  refine mv rfl ?_ (hg := gd1)
  refine ceq rfl rfl (decide_eq_true (by omega)) ?_ (hg := gd1)
  refine pk rfl rfl ?_
  refine mv rfl ?_
  refine mv rfl ?_ (hg := gd1)
  refine ceq rfl rfl (decide_eq_true (by omega)) ?_ (hg := gd1)
  refine pk rfl rfl ?_
  refine mv rfl ?_
  refine mv rfl ?_ (hg := gd1)
  refine ceq rfl rfl (decide_eq_true (by omega)) ?_ (hg := gd1)
  refine pk rfl rfl ?_
  refine mv rfl ?_
  refine mv rfl ?_ (hg := gd1)
  refine ca rfl (h := fz_Reset_n) (hn := ?_) (hg := gd1)
  refine ceq rfl rfl (decide_eq_true (by omega)) ?_ (hg := gd1)
  refine pk rfl rfl ?_
  refine mv rfl ?_
  refine ca rfl (h := fz_Reset_z) (hn := ?_) (hg := gd1)
  refine ceq rfl rfl (decide_eq_true (by omega)) ?_ (hg := gd1)
  refine pk rfl rfl ?_
  refine asg rfl ?_
  refine ⟨by kernel_rfl, ?_⟩
  refine nx (sl 4 rfl sn) (el 10 rfl (el 516 rfl (el 615 rfl en))) ?_
  refine tri_ret ?_
  repeat (first | refine pn_thenr ?_ | refine pn_blkr ?_)
  exact ret1 hcx rfl (rv_tmp rfl) (.refl _) en
end Go.Proofs.YtffnfbhhjjbjbaaGreat.V
