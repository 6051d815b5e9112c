/- Sums, differences, products, quotients of any fractions. -/
import Derived.RangeFuncRecord
import Derived.Scope
import Derived.Test.YtekghdfbhbhigaaGreatDoorM03
set_option linter.unusedVariables false
set_option linter.unusedSimpArgs false
set_option maxRecDepth 100000
namespace Go.Proofs.YtekghdfbhbhigaaGreatDoor.V
open Go.RowKit Mt Nml
theorem rat_subG {a b c d : Int} (hb : b ≠ 0) (hd : d ≠ 0) : ((a * d - c * b : Int) : Rat) / ((b * d : Int) : Rat) = (a : Rat) / (b : Rat) - (c : Rat) / (d : Rat) := by
  rw [Rat.sub_eq_add_neg, ← rat_negG, ← rat_addG hb hd, Int.sub_eq_add_neg, Int.neg_mul]
theorem rat_twoG {a b c d : Int} {s : Rat} {k l m : Nat} {f : FuncId} {Cs : List T} (hb : 0 < b) (hd : 0 < d) (hf : Fn Tryz.prog f Cs [] [] [] (T.Q s m)) (hen : Enters Tryz.prog f) (hns : Cs.flatMap (·.ns) = []) (hk : k ≤ 17179869184) (hl : l ≤ 17179869184) : Fn Tryz.prog 90 [T.Qi a b k, T.Qi c d l, T.clo f Cs hns] [] [] [] (T.tup [T.Q s m, T.c (.int .i64 0)]) := by
  refine fn_of Tryz.func90 rfl (by show 3 ≤ 19; decide) fun cx hcx => ?_
  refine tri_sub (sl 0 rfl (sl 1 rfl (sl 2 rfl sn))) en ?_
  refine tri_seq ?_
  refine tri_reg mixed hcx ?_ _ _
  refine bxs 10 rfl ?_
  refine bxs 11 rfl ?_
  refine nw 12 zeQ ?_
  refine asg rfl ?_
  refine ⟨by kernel_rfl, ?_⟩
  refine nx (sl 2 rfl (sl 3 rfl (sl 4 rfl (sl 6 rfl sn)))) (el 10 rfl (el 11 rfl (el 12 rfl en))) ?_
  refine tri_seq ?_
  refine tri_seq ?_
  refine tri_reg mixed hcx ?_ _ _
  refine ld rfl rfl tyQ rfl ?_
  refine ld rfl rfl tyQ rfl ?_
  refine bs (c := cQi (k + l)) (xs := [(a, b), (c, d)]) slQs rfl ⟨qi_mono (by omega), qi_mono (by omega), trivial⟩ ?_
  refine ca rfl (h := rat_validG (by omega) (by simp) (two_pos hb hd)) (hn := ?_)
  refine asg rfl ?_
  refine ⟨by kernel_rfl, ?_⟩
  refine nx (sl 2 rfl (sl 6 rfl (sl 8 rfl sn))) (el 10 rfl (el 11 rfl (el 12 rfl en))) ?_
  refine tri_seq ?_
  refine tri_reg mixed hcx ?_ _ _
  refine mv rfl ?_
  refine cne rfl rfl (decide_eq_false (by omega)) ?_
  refine ⟨by kernel_rfl, ?_⟩
  refine nx (sl 2 rfl (sl 6 rfl (sl 8 rfl (sl 14 rfl sn)))) (el 10 rfl (el 11 rfl (el 12 rfl en))) ?_
  refine tri_false rfl rfl ?_
  refine tri_skip ?_
  refine nx (sl 2 rfl (sl 6 rfl sn)) (el 10 rfl (el 11 rfl (el 12 rfl en))) ?_
  refine tri_seq ?_
  refine tri_as 2 (Z := T.fn f Cs) rfl clo_ge ?_
  refine tri_reg mixed hcx ?_ _ _
  refine mv rfl ?_
  refine cf rfl rfl hf hen ?_
  refine st rfl rfl rfl tyQ rfl ?_
  refine asg rfl ?_
  refine ⟨by kernel_rfl, ?_⟩
  refine nx (sl 6 rfl (sl 7 rfl sn)) (el 10 rfl (el 11 rfl (el 12 rfl en))) ?_
  refine tri_ret ?_
  repeat (first | refine pn_thenr ?_ | refine pn_blkr ?_)
  exact ret2 hcx rfl (rv_cell (c' := cx) (n := 0) rfl rfl tyQ rfl) (rv_tmp rfl) (.refl _) en

theorem rat_Add1G {a b c d : Int} {k l : Nat} (hb : 0 < b) (hd : 0 < d) (hk : k ≤ 17179869184) (hl : l ≤ 17179869184) : Fn Tryz.prog 91 [T.fp (T.Qi a b k), T.fp (T.Qi c d l)] [] [] [] (T.Q ((a : Rat) / (b : Rat) + ((c : Rat) / (d : Rat))) (3 * (k + l) + 1)) := by
  refine fn_of Tryz.func91 rfl (by show 2 ≤ 20; decide) fun cx hcx => ?_
  refine tri_sub (sl 0 rfl (sl 1 rfl sn)) en ?_
  have hb0 : b ≠ 0 := by omega
  have hd0 : d ≠ 0 := by omega
  have hbd0 : b * d ≠ 0 := Int.mul_ne_zero hb0 hd0
  refine tri_seq ?_
  refine tri_reg mixed hcx ?_ _ _
  refine nw 10 zeQ ?_
  refine ⟨by kernel_rfl, ?_⟩
  refine nx (sl 0 rfl (sl 1 rfl (sl 2 rfl sn))) (el 10 rfl en) ?_
  refine tri_seq ?_
  refine tri_reg mixed hcx ?_ _ _
  refine ff rfl fNum rfl ?_
  refine lf rfl tyZ ?_
  refine ff rfl fDen rfl ?_
  refine lf rfl tyZ ?_
  refine ca rfl (h := zi_Mul (by omega) (by omega)) (hn := ?_)
  refine ff rfl fNum rfl ?_
  refine lf rfl tyZ ?_
  refine ff rfl fDen rfl ?_
  refine lf rfl tyZ ?_
  refine ca rfl (h := zi_Mul (by omega) (by omega)) (hn := ?_)
  refine ca rfl (h := zi_Add (by omega) (by omega)) (hn := ?_)
  refine ff rfl fDen rfl ?_
  refine lf rfl tyZ ?_
  refine ff rfl fDen rfl ?_
  refine lf rfl tyZ ?_
  refine ca rfl (h := zi_Mul (by omega) (by omega)) (hn := ?_)
  refine ca rfl (h := rat_mk (by assumption) (by omega) (by omega)) (hn := ?_)
  refine st rfl rfl rfl tyQ rfl ?_
  refine ⟨by kernel_rfl, ?_⟩
  refine nx (sl 2 rfl sn) (el 10 rfl en) ?_
  refine tri_ret ?_
  repeat (first | refine pn_thenr ?_ | refine pn_blkr ?_)
  exact ret1 hcx rfl (rv_cell (c' := cx) (n := 0) rfl rfl tyQ rfl) (q_eq (rat_addG hb0 hd0) (by omega)) en

theorem rat_AddG {a b c d : Int} {k l : Nat} (hb : 0 < b) (hd : 0 < d) (hk : k ≤ 17179869184) (hl : l ≤ 17179869184) : Fn Tryz.prog 74 [T.Qi a b k, T.Qi c d l] [] [] [] (T.tup [T.Q ((a : Rat) / (b : Rat) + ((c : Rat) / (d : Rat))) (3 * (k + l) + 1), T.c (.int .i64 0)]) := by
  refine fn_of Tryz.func74 rfl (by show 2 ≤ 12; decide) fun cx hcx => ?_
  refine tri_sub (sl 0 rfl (sl 1 rfl sn)) en ?_
  have hfn := rat_Add1G (a := a) (b := b) (c := c) (d := d) hb hd hk hl
  have hclo := clo_le (f := 91) (Cs := [T.fp (T.Qi a b k), T.fp (T.Qi c d l)]) (h := rfl)
  refine tri_seq ?_
  refine tri_reg mixed hcx ?_ _ _
  refine bxs 10 rfl ?_
  refine bxs 11 rfl ?_
  refine nw 12 zeQ ?_
  refine asg rfl ?_
  refine ⟨by kernel_rfl, ?_⟩
  refine nx (sl 2 rfl (sl 3 rfl (sl 4 rfl sn))) (el 10 rfl (el 11 rfl (el 12 rfl en))) ?_
  refine tri_seq ?_
  refine tri_fzb 2 10 rfl rfl (by show (4 : Nat) ≠ 0; decide) ?_
  refine tri_fzb 3 11 rfl rfl (by show (4 : Nat) ≠ 0; decide) ?_
  refine tri_sub (sl 2 rfl (sl 3 rfl (sl 4 rfl sn))) (el 12 rfl en) ?_
  refine tri_reg mixed hcx ?_ _ _
  refine lf rfl tyQ ?_
  refine lf rfl tyQ ?_
  refine mf rfl ?_
  refine ca rfl (h := rat_twoG hb hd hfn (by intro a w; kernel_rfl) rfl (by omega) (by omega)) (hn := ?_)
  refine ex rfl rfl ?_
  refine ex rfl rfl ?_
  refine st rfl rfl rfl tyQ rfl ?_
  refine asg rfl ?_
  refine ⟨by kernel_rfl, ?_⟩
  refine nx (sl 4 rfl (sl 5 rfl sn)) (el 12 rfl en) ?_
  refine tri_ret ?_
  repeat (first | refine pn_thenr ?_ | refine pn_blkr ?_)
  exact ret2 hcx rfl (rv_cell (c' := cx) (n := 0) rfl rfl tyQ rfl) (rv_tmp rfl) (.refl _) en

theorem rat_Sub1G {a b c d : Int} {k l : Nat} (hb : 0 < b) (hd : 0 < d) (hk : k ≤ 17179869184) (hl : l ≤ 17179869184) : Fn Tryz.prog 92 [T.fp (T.Qi a b k), T.fp (T.Qi c d l)] [] [] [] (T.Q ((a : Rat) / (b : Rat) - ((c : Rat) / (d : Rat))) (3 * (k + l) + 1)) := by
  refine fn_of Tryz.func92 rfl (by show 2 ≤ 20; decide) fun cx hcx => ?_
  refine tri_sub (sl 0 rfl (sl 1 rfl sn)) en ?_
  have hb0 : b ≠ 0 := by omega
  have hd0 : d ≠ 0 := by omega
  have hbd0 : b * d ≠ 0 := Int.mul_ne_zero hb0 hd0
  refine tri_seq ?_
  refine tri_reg mixed hcx ?_ _ _
  refine nw 10 zeQ ?_
  refine ⟨by kernel_rfl, ?_⟩
  refine nx (sl 0 rfl (sl 1 rfl (sl 2 rfl sn))) (el 10 rfl en) ?_
  refine tri_seq ?_
  refine tri_reg mixed hcx ?_ _ _
  refine ff rfl fNum rfl ?_
  refine lf rfl tyZ ?_
  refine ff rfl fDen rfl ?_
  refine lf rfl tyZ ?_
  refine ca rfl (h := zi_Mul (by omega) (by omega)) (hn := ?_)
  refine ff rfl fNum rfl ?_
  refine lf rfl tyZ ?_
  refine ff rfl fDen rfl ?_
  refine lf rfl tyZ ?_
  refine ca rfl (h := zi_Mul (by omega) (by omega)) (hn := ?_)
  refine ca rfl (h := zi_Sub (by omega) (by omega)) (hn := ?_)
  refine ff rfl fDen rfl ?_
  refine lf rfl tyZ ?_
  refine ff rfl fDen rfl ?_
  refine lf rfl tyZ ?_
  refine ca rfl (h := zi_Mul (by omega) (by omega)) (hn := ?_)
  refine ca rfl (h := rat_mk (by assumption) (by omega) (by omega)) (hn := ?_)
  refine st rfl rfl rfl tyQ rfl ?_
  refine ⟨by kernel_rfl, ?_⟩
  refine nx (sl 2 rfl sn) (el 10 rfl en) ?_
  refine tri_ret ?_
  repeat (first | refine pn_thenr ?_ | refine pn_blkr ?_)
  exact ret1 hcx rfl (rv_cell (c' := cx) (n := 0) rfl rfl tyQ rfl) (q_eq (rat_subG hb0 hd0) (by omega)) en

theorem rat_SubG {a b c d : Int} {k l : Nat} (hb : 0 < b) (hd : 0 < d) (hk : k ≤ 17179869184) (hl : l ≤ 17179869184) : Fn Tryz.prog 75 [T.Qi a b k, T.Qi c d l] [] [] [] (T.tup [T.Q ((a : Rat) / (b : Rat) - ((c : Rat) / (d : Rat))) (3 * (k + l) + 1), T.c (.int .i64 0)]) := by
  refine fn_of Tryz.func75 rfl (by show 2 ≤ 12; decide) fun cx hcx => ?_
  refine tri_sub (sl 0 rfl (sl 1 rfl sn)) en ?_
  have hfn := rat_Sub1G (a := a) (b := b) (c := c) (d := d) hb hd hk hl
  have hclo := clo_le (f := 92) (Cs := [T.fp (T.Qi a b k), T.fp (T.Qi c d l)]) (h := rfl)
  refine tri_seq ?_
  refine tri_reg mixed hcx ?_ _ _
  refine bxs 10 rfl ?_
  refine bxs 11 rfl ?_
  refine nw 12 zeQ ?_
  refine asg rfl ?_
  refine ⟨by kernel_rfl, ?_⟩
  refine nx (sl 2 rfl (sl 3 rfl (sl 4 rfl sn))) (el 10 rfl (el 11 rfl (el 12 rfl en))) ?_
  refine tri_seq ?_
  refine tri_fzb 2 10 rfl rfl (by show (4 : Nat) ≠ 0; decide) ?_
  refine tri_fzb 3 11 rfl rfl (by show (4 : Nat) ≠ 0; decide) ?_
  refine tri_sub (sl 2 rfl (sl 3 rfl (sl 4 rfl sn))) (el 12 rfl en) ?_
  refine tri_reg mixed hcx ?_ _ _
  refine lf rfl tyQ ?_
  refine lf rfl tyQ ?_
  refine mf rfl ?_
  refine ca rfl (h := rat_twoG hb hd hfn (by intro a w; kernel_rfl) rfl (by omega) (by omega)) (hn := ?_)
  refine ex rfl rfl ?_
  refine ex rfl rfl ?_
  refine st rfl rfl rfl tyQ rfl ?_
  refine asg rfl ?_
  refine ⟨by kernel_rfl, ?_⟩
  refine nx (sl 4 rfl (sl 5 rfl sn)) (el 12 rfl en) ?_
  refine tri_ret ?_
  repeat (first | refine pn_thenr ?_ | refine pn_blkr ?_)
  exact ret2 hcx rfl (rv_cell (c' := cx) (n := 0) rfl rfl tyQ rfl) (rv_tmp rfl) (.refl _) en

theorem rat_Mul1G {a b c d : Int} {k l : Nat} (hb : 0 < b) (hd : 0 < d) (hk : k ≤ 17179869184) (hl : l ≤ 17179869184) : Fn Tryz.prog 96 [T.fp (T.Qi a b k), T.fp (T.Qi c d l)] [] [] [] (T.Q ((a : Rat) / (b : Rat) * ((c : Rat) / (d : Rat))) (2 * (k + l))) := by
  refine fn_of Tryz.func96 rfl (by show 2 ≤ 14; decide) fun cx hcx => ?_
  refine tri_sub (sl 0 rfl (sl 1 rfl sn)) en ?_
  have hb0 : b ≠ 0 := by omega
  have hd0 : d ≠ 0 := by omega
  have hbd0 : b * d ≠ 0 := Int.mul_ne_zero hb0 hd0
  refine tri_seq ?_
  refine tri_reg mixed hcx ?_ _ _
  refine nw 10 zeQ ?_
  refine ⟨by kernel_rfl, ?_⟩
  refine nx (sl 0 rfl (sl 1 rfl (sl 2 rfl sn))) (el 10 rfl en) ?_
  refine tri_seq ?_
  refine tri_reg mixed hcx ?_ _ _
  refine ff rfl fNum rfl ?_
  refine lf rfl tyZ ?_
  refine ff rfl fNum rfl ?_
  refine lf rfl tyZ ?_
  refine ca rfl (h := zi_Mul (by omega) (by omega)) (hn := ?_)
  refine ff rfl fDen rfl ?_
  refine lf rfl tyZ ?_
  refine ff rfl fDen rfl ?_
  refine lf rfl tyZ ?_
  refine ca rfl (h := zi_Mul (by omega) (by omega)) (hn := ?_)
  refine ca rfl (h := rat_mk (by assumption) (by omega) (by omega)) (hn := ?_)
  refine st rfl rfl rfl tyQ rfl ?_
  refine ⟨by kernel_rfl, ?_⟩
  refine nx (sl 2 rfl sn) (el 10 rfl en) ?_
  refine tri_ret ?_
  repeat (first | refine pn_thenr ?_ | refine pn_blkr ?_)
  exact ret1 hcx rfl (rv_cell (c' := cx) (n := 0) rfl rfl tyQ rfl) (q_eq (rat_mulG _ _ _ _) (by omega)) en

theorem rat_MulG {a b c d : Int} {k l : Nat} (hb : 0 < b) (hd : 0 < d) (hk : k ≤ 17179869184) (hl : l ≤ 17179869184) : Fn Tryz.prog 78 [T.Qi a b k, T.Qi c d l] [] [] [] (T.tup [T.Q ((a : Rat) / (b : Rat) * ((c : Rat) / (d : Rat))) (2 * (k + l)), T.c (.int .i64 0)]) := by
  refine fn_of Tryz.func78 rfl (by show 2 ≤ 12; decide) fun cx hcx => ?_
  refine tri_sub (sl 0 rfl (sl 1 rfl sn)) en ?_
  have hfn := rat_Mul1G (a := a) (b := b) (c := c) (d := d) hb hd hk hl
  have hclo := clo_le (f := 96) (Cs := [T.fp (T.Qi a b k), T.fp (T.Qi c d l)]) (h := rfl)
  refine tri_seq ?_
  refine tri_reg mixed hcx ?_ _ _
  refine bxs 10 rfl ?_
  refine bxs 11 rfl ?_
  refine nw 12 zeQ ?_
  refine asg rfl ?_
  refine ⟨by kernel_rfl, ?_⟩
  refine nx (sl 2 rfl (sl 3 rfl (sl 4 rfl sn))) (el 10 rfl (el 11 rfl (el 12 rfl en))) ?_
  refine tri_seq ?_
  refine tri_fzb 2 10 rfl rfl (by show (4 : Nat) ≠ 0; decide) ?_
  refine tri_fzb 3 11 rfl rfl (by show (4 : Nat) ≠ 0; decide) ?_
  refine tri_sub (sl 2 rfl (sl 3 rfl (sl 4 rfl sn))) (el 12 rfl en) ?_
  refine tri_reg mixed hcx ?_ _ _
  refine lf rfl tyQ ?_
  refine lf rfl tyQ ?_
  refine mf rfl ?_
  refine ca rfl (h := rat_twoG hb hd hfn (by intro a w; kernel_rfl) rfl (by omega) (by omega)) (hn := ?_)
  refine ex rfl rfl ?_
  refine ex rfl rfl ?_
  refine st rfl rfl rfl tyQ rfl ?_
  refine asg rfl ?_
  refine ⟨by kernel_rfl, ?_⟩
  refine nx (sl 4 rfl (sl 5 rfl sn)) (el 12 rfl en) ?_
  refine tri_ret ?_
  repeat (first | refine pn_thenr ?_ | refine pn_blkr ?_)
  exact ret2 hcx rfl (rv_cell (c' := cx) (n := 0) rfl rfl tyQ rfl) (rv_tmp rfl) (.refl _) en

end Go.Proofs.YtekghdfbhbhigaaGreatDoor.V
/- A point along a row. -/
set_option linter.unusedVariables false
set_option linter.unusedSimpArgs false
set_option maxRecDepth 100000
namespace Go.Proofs.YtekghdfbhbhigaaGreatDoor.V
open Go.RowKit Mt Nml
theorem den_p' (q : Rat) : 0 < ((q.den : Int)) := Int.natCast_pos.2 q.den_pos

end Go.Proofs.YtekghdfbhbhigaaGreatDoor.V
/- Fractions by what they are worth. -/
set_option linter.unusedVariables false
set_option linter.unusedSimpArgs false
set_option maxRecDepth 100000
namespace Go.Proofs.YtekghdfbhbhigaaGreatDoor.V
open Go.RowKit Mt Nml
/-- A fraction by what it is worth, however told. -/
def T.V (q : Rat) (k : Nat) : T := T.ex 4 true (fun p : Int × Int => 0 < p.2 ∧ (p.1 : Rat) / (p.2 : Rat) = q ∧ zl p.1 ≤ k ∧ zl p.2 ≤ k) (fun p => T.Qi p.1 p.2 k) (fun _ => ⟨rfl, rfl, rfl⟩)
theorem zi_zl {z : Int} {k : Nat} {β : Env} {u : World} {v : Value} (h : (T.Zi z k).rep β u v) : zl z ≤ k := by
  obtain ⟨i, ⟨k1, k2, k3⟩, _⟩ := h
  obtain ⟨M, hM⟩ := Int.eq_ofNat_of_zero_le (val_nonneg k1)
  rw [k2, hM]
  exact z_bd (s := i.1) k1 hM k3
theorem qi_v {a b : Int} {q : Rat} {k k' : Nat} (hb : 0 < b) (e : (a : Rat) / (b : Rat) = q) (hk : k ≤ k') : (T.Qi a b k).le (T.V q k') := fun β u v h => by
  have h2 := h
  obtain ⟨cs, e1, v1, r1, z1, h1, e2, v2, r2, z2, h3, _⟩ := h
  exact ⟨(a, b), ⟨hb, e, Nat.le_trans (zi_zl h1) hk, Nat.le_trans (zi_zl h3) hk⟩, qi_mono hk _ _ _ h2⟩
theorem q_v (q : Rat) {k k' : Nat} (hk : k ≤ k') : (T.Q q k).le (T.V q k') := (q_qi q hk).trans (qi_v (den_p' q) (rat_nd q) (Nat.le_refl _))
theorem q_v' (q : Rat) (k : Nat) : (T.Q q k).le (T.V q k) := q_v q (Nat.le_refl _)
theorem q_vq {q q' : Rat} {k k' : Nat} (e : q = q') (h : QB q' k') : (T.Q q k).le (T.V q' k') := (q_qb e h).trans (q_v' _ _)
theorem qi_v' {a b : Int} {k : Nat} (hb : 0 < b) : (T.Qi a b k).le (T.V ((a : Rat) / (b : Rat)) k) := qi_v hb rfl (Nat.le_refl _)
theorem cqi_v {p : Int × Int} {k : Nat} (hb : 0 < p.2) : ((cQi k).X p).le (T.V ((p.1 : Rat) / (p.2 : Rat)) k) := qi_v hb rfl (Nat.le_refl _)
theorem fn_v {P : Program} {f : FuncId} {q : Rat} {k : Nat} (As : List T) {Bs : List T} {Ei Eo : List (Nat × Ent)} {N : List Nat} {R : T} (h : ∀ p : Int × Int, 0 < p.2 → (p.1 : Rat) / (p.2 : Rat) = q → zl p.1 ≤ k → zl p.2 ≤ k → Fn P f (As ++ T.Qi p.1 p.2 k :: Bs) Ei Eo N R) : Fn P f (As ++ T.V q k :: Bs) Ei Eo N R := fn_ex fun p ⟨h1, h2, h3, h4⟩ => h p h1 h2 h3 h4
theorem QB.addv {a b c d : Int} {x y : Rat} {k l : Nat} (hb : 0 < b) (hd : 0 < d) (e : (a : Rat) / (b : Rat) = x) (e2 : (c : Rat) / (d : Rat) = y) (h1 : zl a ≤ k) (h2 : zl b ≤ k) (h3 : zl c ≤ l) (h4 : zl d ≤ l) : QB (x + y) (k + l + 1) := by
  rw [← e, ← e2, ← rat_addG (by omega) (by omega)]
  have h5 := zl_mul h1 h4
  have h6 := zl_mul h3 h2
  have := qb_div (zl_add_max h5 (by rw [Nat.add_comm]; exact h6)) (zl_mul h2 h4) (Int.mul_ne_zero (by omega) (by omega))
  exact QB.mono this (by omega)
theorem QB.subv {a b c d : Int} {x y : Rat} {k l : Nat} (hb : 0 < b) (hd : 0 < d) (e : (a : Rat) / (b : Rat) = x) (e2 : (c : Rat) / (d : Rat) = y) (h1 : zl a ≤ k) (h2 : zl b ≤ k) (h3 : zl c ≤ l) (h4 : zl d ≤ l) : QB (x - y) (k + l + 1) := by
  rw [← e, ← e2, ← rat_subG (by omega) (by omega)]
  have h5 := zl_mul h1 h4
  have h6 := zl_mul h3 h2
  have := qb_div (zl_sub_max h5 (by rw [Nat.add_comm]; exact h6)) (zl_mul h2 h4) (Int.mul_ne_zero (by omega) (by omega))
  exact QB.mono this (by omega)
theorem QB.mulv {a b c d : Int} {x y : Rat} {k l : Nat} (hb : 0 < b) (hd : 0 < d) (e : (a : Rat) / (b : Rat) = x) (e2 : (c : Rat) / (d : Rat) = y) (h1 : zl a ≤ k) (h2 : zl b ≤ k) (h3 : zl c ≤ l) (h4 : zl d ≤ l) : QB (x * y) (k + l) := by
  rw [← e, ← e2, ← rat_mulG]
  have := qb_div (zl_mul h1 h3) (zl_mul h2 h4) (Int.mul_ne_zero (show b ≠ 0 by omega) (show d ≠ 0 by omega))
  exact QB.mono this (by omega)
theorem rv_Add {x y : Rat} {k l : Nat} (hk : k ≤ 17179869184) (hl : l ≤ 17179869184) : Fn Tryz.prog 74 [T.V x k, T.V y l] [] [] [] (T.tup [T.Q (x + y) (k + l + 1), T.c (.int .i64 0)]) := fn_v [] fun p p1 p2 p3 p4 => fn_v [T.Qi p.1 p.2 k] (Bs := []) fun q q1 q2 q3 q4 => fn_out (rat_AddG p1 q1 hk hl) (tup_le ⟨q_qb (by rw [p2, q2]) (QB.addv p1 q1 p2 q2 p3 p4 q3 q4), .refl _, trivial⟩)

theorem rv_Sub {x y : Rat} {k l : Nat} (hk : k ≤ 17179869184) (hl : l ≤ 17179869184) : Fn Tryz.prog 75 [T.V x k, T.V y l] [] [] [] (T.tup [T.Q (x - y) (k + l + 1), T.c (.int .i64 0)]) := fn_v [] fun p p1 p2 p3 p4 => fn_v [T.Qi p.1 p.2 k] (Bs := []) fun q q1 q2 q3 q4 => fn_out (rat_SubG p1 q1 hk hl) (tup_le ⟨q_qb (by rw [p2, q2]) (QB.subv p1 q1 p2 q2 p3 p4 q3 q4), .refl _, trivial⟩)

theorem rv_Mul {x y : Rat} {k l : Nat} (hk : k ≤ 17179869184) (hl : l ≤ 17179869184) : Fn Tryz.prog 78 [T.V x k, T.V y l] [] [] [] (T.tup [T.Q (x * y) (k + l), T.c (.int .i64 0)]) := fn_v [] fun p p1 p2 p3 p4 => fn_v [T.Qi p.1 p.2 k] (Bs := []) fun q q1 q2 q3 q4 => fn_out (rat_MulG p1 q1 hk hl) (tup_le ⟨q_qb (by rw [p2, q2]) (QB.mulv p1 q1 p2 q2 p3 p4 q3 q4), .refl _, trivial⟩)

section
variable {P : Program} {ops : Array Oper} {fin : List OpS → List (Nat × T) → List (Nat × Option Ent) → Prop} {r : List Oper} {H : List OpS} {g : List (Nat × T)} {E : List (Nat × Option Ent)} {o : Oper}
variable {t : Option Nat} {ty : TypeId} {ps : String} {af : Array Edge} {gd : Option (Nat × Bool)} {x y : Operand} {X Y : T} {e off m : Nat} {b : Bool} {l l' : List T} {et : TypeId}
variable {α : Type} {c : Cod α} {xs ys : List α}
/-- A call; fractions are told by what they are worth. -/
theorem cb {f : FuncId} {zs : Array Operand} {tys : Array TypeId} {As Bs : List T} (hA : envs g zs.toList = some As)
    (hl : LeL As Bs := by repeat (first | exact trivial | refine ⟨?_, ?_⟩ | exact q_v' _ _ | exact T.le.refl _ | exact qi_v' (by assumption) | exact cqi_v (by assumption) | exact IsZ.le | exact IsL2.le | exact IsL.le | exact q_le _ _ | assumption))
    (h : Fn P f Bs [] [] [] X) (hn : J P ops fin r (OpS.p X :: H) (putg t X g) E) (hen : Enters P f := by intro a w; kernel_rfl)
    (hg : GuardIs ops g ⟨t, .call ⟨.value (.func f), zs, tys⟩, ty, ps, af, gd⟩ true := by exact gd0) : J P ops fin (⟨t, .call ⟨.value (.func f), zs, tys⟩, ty, ps, af, gd⟩ :: r) H g E :=
  cl hA (fn_le h hl) hn hen hg
end
theorem box_q {et : TypeId} {q q' : Rat} {k k' : Nat} (h : (T.Q q k).le (T.Q q' k')) : (Ent.box et [T.Q q k]).le (Ent.box et [T.Q q' k']) := box_pack1 h
def nd (q : Rat) : Int × Int := (q.num, (q.den : Int))
end Go.Proofs.YtekghdfbhbhigaaGreatDoor.V
/- A logic of calls: pointers that are none, and those that are not. -/
set_option linter.unusedVariables false
set_option linter.unusedSimpArgs false
namespace Go.Proofs.YtekghdfbhbhigaaGreatDoor.V
open Go.RowKit Mt Nml
section
variable {P : Program} {ops : Array Oper} {fin : List OpS → List (Nat × T) → List (Nat × Option Ent) → Prop} {r : List Oper} {H : List OpS} {g : List (Nat × T)} {E : List (Nat × Option Ent)} {o : Oper}
variable {t : Option Nat} {ty : TypeId} {ps : String} {af : Array Edge} {gd : Option (Nat × Bool)} {x y : Operand} {X Y : T} {e off m : Nat} {b : Bool} {l l' : List T} {et : TypeId}
/-- A pointer that is not none. -/
class NN (X : T) : Prop where nn : ∀ {β u v}, X.rep β u v → ∃ a, v = .pointer (some a)
instance (X : T) : NN (T.fp X) := ⟨fun ⟨a, _, h, _⟩ => ⟨a, h⟩⟩
instance (e off : Nat) : NN (T.p e off) := ⟨fun ⟨b, _, h⟩ => ⟨_, h⟩⟩
theorem nk [hn' : NN X] (hX : envl g x = some X) (hn : J P ops fin r (OpS.p X :: H) (putg t X g) E) (hg : GuardIs ops g ⟨t, .nilCheck x, ty, ps, af, gd⟩ true := by exact gd0) : J P ops fin (⟨t, .nilCheck x, ty, ps, af, gd⟩ :: r) H g E :=
  j_val hg (ok_pure fun ρ β u w F hs he hH => by
    have h1 := he x (by simp [Op.operands]) _ hX
    obtain ⟨a, h2⟩ := hn'.nn h1
    exact ⟨ρ x, by simp [execOp, h2], h1⟩) hn
theorem run_eqp {P : Program} {t1 e : TypeId} (hu : P.underlying t1 = some (.pointer e)) (a : Option Addr) (w : World) : (Op.equalIn Op.maxDepth t1 (.pointer a) (.pointer none)).run P w = .ok a.isNone w := by
  unfold Op.maxDepth
  unfold Op.equalIn
  rw [Sem.run_bind, run_underlying hu w]
  cases a <;> rfl
theorem peq {t1 t2 pe : TypeId} [hn' : NN X] (hX : envl g x = some X) (hY : envl g y = some (T.c (.pointer none))) (hu : P.underlying t1 = some (.pointer pe)) (hn : J P ops fin r (OpS.p (T.c (.bool false)) :: H) (putg t (T.c (.bool false)) g) E) (hg : GuardIs ops g ⟨t, .binOp .eql t1 x y t2, ty, ps, af, gd⟩ true := by exact gd0) : J P ops fin (⟨t, .binOp .eql t1 x y t2, ty, ps, af, gd⟩ :: r) H g E :=
  j_val hg (ok_pure fun ρ β u w F hs he hH => by
    obtain ⟨a, h2⟩ := hn'.nn (he x (by simp [Op.operands]) _ hX)
    have h3 : ρ y = .pointer none := he y (by simp [Op.operands]) _ hY
    exact ⟨.bool false, by simp [execOp, h2, h3, eqGuard, binOp, Op.equal, run_eqp hu], rfl⟩) hn
theorem pqn {t1 t2 pe : TypeId} (hX : envl g x = some (T.c (.pointer none))) (hY : envl g y = some (T.c (.pointer none))) (hu : P.underlying t1 = some (.pointer pe)) (hn : J P ops fin r (OpS.p (T.c (.bool true)) :: H) (putg t (T.c (.bool true)) g) E) (hg : GuardIs ops g ⟨t, .binOp .eql t1 x y t2, ty, ps, af, gd⟩ true := by exact gd0) : J P ops fin (⟨t, .binOp .eql t1 x y t2, ty, ps, af, gd⟩ :: r) H g E :=
  j_val hg (ok_pure fun ρ β u w F hs he hH => by
    have h2 : ρ x = .pointer none := he x (by simp [Op.operands]) _ hX
    have h3 : ρ y = .pointer none := he y (by simp [Op.operands]) _ hY
    exact ⟨.bool true, by simp [execOp, h2, h3, eqGuard, binOp, Op.equal, run_eqp hu], rfl⟩) hn
end
end Go.Proofs.YtekghdfbhbhigaaGreatDoor.V
/- The nearest point's coefficients as plain sums: what stands along each star, and the way back. -/
set_option linter.unusedVariables false
set_option maxRecDepth 100000
namespace Go.Proofs.YtekghdfbhbhigaaGreatDoor.V
open Go.RowKit Mt Nml
def muq (D : List Int) (L : List (List Int)) (i j : Nat) : Rat := (((L.getD i []).getD j 0 : Int) : Rat) / ((D.getD (j + 1) 0 : Int) : Rat)
def stq (D : List Int) (i : Nat) : Rat := ((D.getD (i + 1) 0 : Int) : Rat) / ((D.getD i 0 : Int) : Rat)
/-- What is left of a number of the point, after i rows. -/
def lq (b : List (List Int)) (c : List Rat) (d : Rat) (k : Nat) : Nat → Rat
  | 0 => d
  | i + 1 => lq b c d k i - c.getD i 0 * (((b.getD i []).getD k 0 : Int) : Rat)
def hq (b : List (List Int)) (c : List Rat) (ts : List (Int × Int)) (n : Nat) : Nat → Rat
  | 0 => 0
  | k + 1 => hq b c ts n k + lq b c (((ts.getD k (0, 0)).1 : Rat) / ((ts.getD k (0, 0)).2 : Rat)) k n * lq b c (((ts.getD k (0, 0)).1 : Rat) / ((ts.getD k (0, 0)).2 : Rat)) k n
end Go.Proofs.YtekghdfbhbhigaaGreatDoor.V
/- Sizes by a common denominator. -/
set_option linter.unusedVariables false
set_option maxRecDepth 100000
namespace Go.Proofs.YtekghdfbhbhigaaGreatDoor.V
open Go.RowKit Mt Nml
/-- Times d it is a whole number of at most A limbs. -/
def QC (q : Rat) (d : Int) (A : Nat) : Prop := ∃ n : Int, q * (d : Rat) = (n : Rat) ∧ zl n ≤ A
theorem QC.mono {q : Rat} {d : Int} {A B : Nat} (h : QC q d A) (hA : A ≤ B) : QC q d B := by
  obtain ⟨n, h1, h2⟩ := h
  exact ⟨n, h1, Nat.le_trans h2 hA⟩
theorem QC.add {q r : Rat} {d : Int} {A B : Nat} (h : QC q d A) (k : QC r d B) : QC (q + r) d (max A B + 1) := by
  obtain ⟨n, h1, h2⟩ := h
  obtain ⟨m, k1, k2⟩ := k
  exact ⟨n + m, by rw [Rat.add_mul, h1, k1, Rat.intCast_add], zl_add_max (Nat.le_trans h2 (Nat.le_max_left _ _)) (Nat.le_trans k2 (Nat.le_max_right _ _))⟩
theorem QC.neg {q : Rat} {d : Int} {A : Nat} (h : QC q d A) : QC (-q) d A := by
  obtain ⟨n, h1, h2⟩ := h
  exact ⟨-n, by rw [Rat.neg_mul, h1, Rat.intCast_neg], by unfold zl at h2 ⊢; rw [Int.natAbs_neg]; exact h2⟩
theorem QC.sub {q r : Rat} {d : Int} {A B : Nat} (h : QC q d A) (k : QC r d B) : QC (q - r) d (max A B + 1) := by
  rw [Rat.sub_eq_add_neg]
  exact h.add k.neg
theorem QC.mul {q r : Rat} {d e : Int} {A B : Nat} (h : QC q d A) (k : QC r e B) : QC (q * r) (d * e) (A + B) := by
  obtain ⟨n, h1, h2⟩ := h
  obtain ⟨m, k1, k2⟩ := k
  refine ⟨n * m, ?_, zl_mul h2 k2⟩
  rw [Rat.intCast_mul, Rat.intCast_mul, ← h1, ← k1]
  generalize (d : Rat) = x
  generalize (e : Rat) = y
  grind
theorem QC.up {q : Rat} {d : Int} {A : Nat} (h : QC q d A) (e : Int) : QC q (d * e) (A + zl e) := by
  obtain ⟨n, h1, h2⟩ := h
  refine ⟨n * e, ?_, zl_mul h2 (Nat.le_refl _)⟩
  rw [Rat.intCast_mul, Rat.intCast_mul, ← h1]
  generalize (d : Rat) = x
  generalize (e : Rat) = y
  grind
theorem QC.frac {a b : Int} (hb : b ≠ 0) : QC ((a : Rat) / (b : Rat)) b (zl a) := by
  have hne := rat_ne hb
  refine ⟨a, ?_, Nat.le_refl _⟩
  generalize (b : Rat) = y at hne
  grind
theorem QC.int (a : Int) : QC (a : Rat) 1 (zl a) := ⟨a, by rw [show ((1 : Int) : Rat) = 1 from rfl, Rat.mul_one], Nat.le_refl _⟩
end Go.Proofs.YtekghdfbhbhigaaGreatDoor.V
/- The parts along the stars have a common denominator that grows by steps. -/
set_option linter.unusedVariables false
set_option maxRecDepth 100000
namespace Go.Proofs.YtekghdfbhbhigaaGreatDoor.V
open Go.RowKit Mt Nml
end Go.Proofs.YtekghdfbhbhigaaGreatDoor.V
/- The coefficients have a common denominator that grows by steps. -/
set_option linter.unusedVariables false
set_option maxRecDepth 100000
namespace Go.Proofs.YtekghdfbhbhigaaGreatDoor.V
open Go.RowKit Mt Nml
end Go.Proofs.YtekghdfbhbhigaaGreatDoor.V
/- The premises of the sizes: what divides the common denominator. -/
set_option linter.unusedVariables false
set_option maxRecDepth 100000
namespace Go.Proofs.YtekghdfbhbhigaaGreatDoor.V
open Go.RowKit Mt Nml
end Go.Proofs.YtekghdfbhbhigaaGreatDoor.V
/- What is said of rows, but for dependence. -/
set_option linter.unusedVariables false
set_option linter.unusedSimpArgs false
set_option maxRecDepth 100000
namespace Go.Proofs.YtekghdfbhbhigaaGreatDoor.V
open Go.RowKit Mt Nml
/-- A truth value, whichever. -/
def T.tb : T := T.ex 1 false (fun _ : Bool => True) (fun s => T.c (.bool s)) (fun _ => ⟨rfl, rfl, rfl⟩)
theorem tb_of (s : Bool) : (T.c (.bool s)).le T.tb := fun β u v h => ⟨s, trivial, h⟩
theorem iv_abs {s : Bool} {xs : List Int} {z : Int} (h : Lim xs) (hz : z = iv s (val xs)) : val xs = ((z.natAbs : Nat) : Int) := by
  have := val_nonneg h
  subst hz
  unfold iv
  split <;> omega
theorem zi_parts {z : Int} {k : Nat} : (T.Zi z k).le (T.st [T.tb, T.L z.natAbs k]) := fun β u v ⟨i, ⟨h1, h2, h3⟩, cs, e, hc⟩ => ⟨cs, e, cells_le (l := [T.c (.bool i.1), T.l cU i.2]) hc ⟨tb_of i.1, l_L h1 (iv_abs h1 h2) h3, trivial⟩ rfl⟩
instance (z : Int) (k : Nat) : Sp (T.Zi z k) [T.tb, T.L z.natAbs k] := ⟨zi_parts⟩
instance (z : Int) (k : Nat) : Sp ((cZi k).X z) [T.tb, T.L z.natAbs k] := ⟨zi_parts⟩
/-- Rows that are too large: q, are the bits asked? -/
def BigB (b : List (List Int)) (q : Bool) : Prop := 12 < b.length ∨ (q = true ∧ 256 < matB b b.length) ∨ ∃ i, i < b.length ∧ 12 < (b.getD i []).length
/-- Rows of unlike lengths. -/
def BadB (b : List (List Int)) : Prop := ∃ i, i < b.length ∧ (b.getD i []).length ≠ (b.getD 0 []).length
/-- What is said of rows, but for dependence. -/
structure ShR (b : List (List Int)) (q : Bool) (r : Int) : Prop where
  big : BigB b q → r = 40
  nil : ¬ BigB b q → b.length = 0 → r = 41
  bad : ¬ BigB b q → b.length ≠ 0 → BadB b → r = 8
  ok : ¬ BigB b q → b.length ≠ 0 → ¬ BadB b → r = 0
theorem ShR.ex (b : List (List Int)) (q : Bool) : ∃ r, ShR b q r := by
  by_cases h1 : BigB b q
  · exact ⟨40, fun _ => rfl, fun h => absurd h1 h, fun h => absurd h1 h, fun h => absurd h1 h⟩
  · by_cases h2 : b.length = 0
    · exact ⟨41, fun h => absurd h h1, fun _ _ => rfl, fun _ h => absurd h2 h, fun _ h => absurd h2 h⟩
    · by_cases h3 : BadB b
      · exact ⟨8, fun h => absurd h h1, fun _ h => absurd h h2, fun _ _ _ => rfl, fun _ _ h => absurd h3 h⟩
      · exact ⟨0, fun h => absurd h h1, fun _ h => absurd h h2, fun _ _ h => absurd h h3, fun _ _ _ => rfl⟩
end Go.Proofs.YtekghdfbhbhigaaGreatDoor.V
/- Determinants: the numbers that the data of rows are divided to are whole, and the data say what elimination says. -/
set_option linter.unusedVariables false
namespace Go.Proofs.YtekghdfbhbhigaaGreatDoor.V
open Mt Nml
abbrev Rw := Nat → Rat
/-- The sum along a column, row by row. -/
def sm (f : List Rw → Rat) (c : Nat) : List Rw → List Rw → Rat
  | _, [] => 0
  | pre, r :: rest => r c * f (pre ++ rest) - sm f c (pre ++ [r]) rest
/-- The determinant of n rows from column c on. -/
def Dt : Nat → Nat → List Rw → Rat
  | 0, _, _ => 1
  | n + 1, c, l => sm (Dt n (c + 1)) c [] l
def addm (x : Rw) (q : Rat) (y : Rw) : Rw := fun j => x j + q * y j
def LinD (n : Nat) (f : List Rw → Rat) : Prop := ∀ A x y q B, A.length + B.length + 1 = n → f (A ++ addm x q y :: B) = f (A ++ x :: B) + q * f (A ++ y :: B)
def AltD (n : Nat) (f : List Rw → Rat) : Prop := ∀ A x y B, A.length + B.length + 2 = n → f (A ++ x :: y :: B) = -f (A ++ y :: x :: B)
theorem sm_lin_pre {n c : Nat} {f : List Rw → Rat} (hf : LinD n f) {P : List Rw} {x y : Rw} {q : Rat} : ∀ (rest Q : List Rw), P.length + Q.length + rest.length = n → sm f c (P ++ addm x q y :: Q) rest = sm f c (P ++ x :: Q) rest + q * sm f c (P ++ y :: Q) rest
  | [], Q, _ => by show (0 : Rat) = 0 + q * 0; grind
  | r :: rest, Q, h => by
    have e : ∀ z : Rw, sm f c (P ++ z :: Q) (r :: rest) = r c * f (P ++ z :: (Q ++ rest)) - sm f c (P ++ z :: (Q ++ [r])) rest := fun z => by
      show r c * f ((P ++ z :: Q) ++ rest) - sm f c ((P ++ z :: Q) ++ [r]) rest = _
      simp only [List.append_assoc, List.cons_append]
    simp only [List.length_cons] at h
    rw [e, e, e, hf P x y q (Q ++ rest) (by simp only [List.length_append]; omega), sm_lin_pre hf rest (Q ++ [r]) (by simp only [List.length_append, List.length_cons, List.length_nil]; omega)]
    grind
theorem sm_lin {n c : Nat} {f : List Rw → Rat} (hf : LinD n f) {x y : Rw} {q : Rat} {B : List Rw} : ∀ (A pre : List Rw), pre.length + A.length + B.length = n → sm f c pre (A ++ addm x q y :: B) = sm f c pre (A ++ x :: B) + q * sm f c pre (A ++ y :: B)
  | [], pre, h => by
    show (x c + q * y c) * f (pre ++ B) - sm f c (pre ++ [addm x q y]) B = (x c * f (pre ++ B) - sm f c (pre ++ [x]) B) + q * (y c * f (pre ++ B) - sm f c (pre ++ [y]) B)
    rw [sm_lin_pre hf B [] (by simpa using h)]
    grind
  | a :: A, pre, h => by
    simp only [List.length_cons] at h
    have e : ∀ z : Rw, sm f c pre ((a :: A) ++ z :: B) = a c * f ((pre ++ A) ++ z :: B) - sm f c (pre ++ [a]) (A ++ z :: B) := fun z => by
      show a c * f (pre ++ (A ++ z :: B)) - sm f c (pre ++ [a]) (A ++ z :: B) = _
      rw [← List.append_assoc]
    rw [e, e, e, hf (pre ++ A) x y q B (by simp only [List.length_append]; omega), sm_lin hf A (pre ++ [a]) (by simp only [List.length_append, List.length_cons, List.length_nil]; omega)]
    grind
theorem sm_alt_pre {n c : Nat} {f : List Rw → Rat} (hf : AltD n f) {P : List Rw} {x y : Rw} : ∀ (rest Q : List Rw), P.length + Q.length + 1 + rest.length = n → sm f c (P ++ x :: y :: Q) rest = -sm f c (P ++ y :: x :: Q) rest
  | [], Q, _ => by show (0 : Rat) = -0; grind
  | r :: rest, Q, h => by
    have e : ∀ z w : Rw, sm f c (P ++ z :: w :: Q) (r :: rest) = r c * f (P ++ z :: w :: (Q ++ rest)) - sm f c (P ++ z :: w :: (Q ++ [r])) rest := fun z w => by
      show r c * f ((P ++ z :: w :: Q) ++ rest) - sm f c ((P ++ z :: w :: Q) ++ [r]) rest = _
      simp only [List.append_assoc, List.cons_append]
    simp only [List.length_cons] at h
    rw [e, e, hf P x y (Q ++ rest) (by simp only [List.length_append]; omega), sm_alt_pre hf rest (Q ++ [r]) (by simp only [List.length_append, List.length_cons, List.length_nil]; omega)]
    grind
theorem sm_alt {n c : Nat} {f : List Rw → Rat} (hf : AltD n f) {x y : Rw} {B : List Rw} : ∀ (A pre : List Rw), pre.length + A.length + B.length + 1 = n → sm f c pre (A ++ x :: y :: B) = -sm f c pre (A ++ y :: x :: B)
  | [], pre, h => by
    have e : ∀ z w : Rw, sm f c pre (z :: w :: B) = z c * f (pre ++ w :: B) - (w c * f (pre ++ z :: B) - sm f c (pre ++ z :: w :: []) B) := fun z w => by
      show z c * f (pre ++ w :: B) - (w c * f ((pre ++ [z]) ++ B) - sm f c ((pre ++ [z]) ++ [w]) B) = _
      simp only [List.append_assoc, List.cons_append, List.nil_append]
    show sm f c pre (x :: y :: B) = -sm f c pre (y :: x :: B)
    rw [e, e, sm_alt_pre (x := x) (y := y) hf B [] (by simp only [List.length_nil] at h ⊢; omega)]
    grind
  | a :: A, pre, h => by
    simp only [List.length_cons] at h
    have e : ∀ z w : Rw, sm f c pre ((a :: A) ++ z :: w :: B) = a c * f ((pre ++ A) ++ z :: w :: B) - sm f c (pre ++ [a]) (A ++ z :: w :: B) := fun z w => by
      show a c * f (pre ++ (A ++ z :: w :: B)) - sm f c (pre ++ [a]) (A ++ z :: w :: B) = _
      rw [← List.append_assoc]
    rw [e, e, hf (pre ++ A) x y B (by simp only [List.length_append]; omega), sm_alt hf A (pre ++ [a]) (by simp only [List.length_append, List.length_cons, List.length_nil]; omega)]
    grind
theorem dt_lin : ∀ n c, LinD n (Dt n c)
  | 0, c => fun A x y q B h => absurd h (by omega)
  | n + 1, c => fun A x y q B h => sm_lin (dt_lin n (c + 1)) A [] (by simp only [List.length_nil]; omega)
theorem dt_alt : ∀ n c, AltD n (Dt n c)
  | 0, c => fun A x y B h => absurd h (by omega)
  | n + 1, c => fun A x y B h => sm_alt (dt_alt n (c + 1)) A [] (by simp only [List.length_nil]; omega)
theorem dup_zero {n : Nat} {f : List Rw → Rat} (hf : AltD n f) {x : Rw} {C : List Rw} : ∀ (B A : List Rw), A.length + B.length + C.length + 2 = n → f (A ++ x :: (B ++ x :: C)) = 0
  | [], A, h => by
    have := hf A x x C (by simp only [List.length_nil] at h; omega)
    show f (A ++ x :: x :: C) = 0
    grind
  | b :: B, A, h => by
    simp only [List.length_cons] at h
    have h1 := hf A x b (B ++ x :: C) (by simp only [List.length_append, List.length_cons]; omega)
    have h2 := dup_zero hf (x := x) (C := C) B (A ++ [b]) (by simp only [List.length_append, List.length_cons, List.length_nil]; omega)
    rw [List.append_assoc] at h2
    show f (A ++ x :: b :: (B ++ x :: C)) = 0
    rw [h1]
    show -f (A ++ ([b] ++ x :: (B ++ x :: C))) = 0
    rw [h2]
    grind
def eln (c : Nat) (x r : Rw) : Rw := addm r (-(r c / x c)) x
theorem eln_all {n c : Nat} {x : Rw} : ∀ (l A : List Rw), A.length + l.length + 1 = n → Dt n c (x :: (A ++ l)) = Dt n c (x :: (A ++ l.map (eln c x)))
  | [], A, _ => rfl
  | r :: l, A, h => by
    simp only [List.length_cons] at h
    have h1 := dt_lin n c (x :: A) r x (-(r c / x c)) l (by simp only [List.length_cons]; omega)
    have h2 := dup_zero (dt_alt n c) (x := x) (C := l) A [] (by simp only [List.length_nil]; omega)
    have h3 := eln_all (n := n) (c := c) (x := x) l (A ++ [eln c x r]) (by simp only [List.length_append, List.length_cons, List.length_nil]; omega)
    rw [List.append_assoc, List.append_assoc] at h3
    show Dt n c (x :: (A ++ r :: l)) = Dt n c (x :: (A ++ ([eln c x r] ++ l.map (eln c x))))
    rw [← h3]
    show Dt n c ((x :: A) ++ r :: l) = Dt n c ((x :: A) ++ eln c x r :: l)
    unfold eln
    rw [h1]
    have h2' : Dt n c ((x :: A) ++ x :: l) = 0 := h2
    rw [h2']
    grind
theorem sm_zero {f : List Rw → Rat} {c : Nat} : ∀ (l pre : List Rw), (∀ r ∈ l, r c = 0) → sm f c pre l = 0
  | [], _, _ => rfl
  | r :: l, pre, h => by
    show r c * f (pre ++ l) - sm f c (pre ++ [r]) l = 0
    rw [h r List.mem_cons_self, sm_zero l _ (fun q hq => h q (List.mem_cons_of_mem _ hq))]
    grind
theorem dt_step {n c : Nat} {x : Rw} {l : List Rw} (hx : x c ≠ 0) (hl : l.length = n) : Dt (n + 1) c (x :: l) = x c * Dt n (c + 1) (l.map (eln c x)) := by
  rw [show x :: l = x :: ([] ++ l) from rfl, eln_all l [] (by simp only [List.length_nil]; omega)]
  show x c * Dt n (c + 1) (l.map (eln c x)) - sm (Dt n (c + 1)) c [x] (l.map (eln c x)) = _
  rw [sm_zero _ _ (fun r hr => by
    obtain ⟨q, _, rfl⟩ := List.mem_map.1 hr
    show q c + -(q c / x c) * x c = 0
    rw [Rat.neg_mul, Rat.div_mul_cancel hx]
    grind)]
  grind
/-- The rows behind k steps of elimination. -/
def Mr (g : Nat → Rw) : Nat → Nat → Rw
  | 0, i => g i
  | k + 1, i => eln k (Mr g k k) (Mr g k i)
def pr (g : Nat → Rw) (t : Nat) : Nat → Rat
  | 0 => 1
  | d + 1 => Mr g t t t * pr g (t + 1) d
theorem pr_snoc (g : Nat → Rw) : ∀ d t, pr g t (d + 1) = pr g t d * Mr g (t + d) (t + d) (t + d)
  | 0, t => by show Mr g t t t * 1 = 1 * Mr g (t + 0) (t + 0) (t + 0); rw [Nat.add_zero]; grind
  | d + 1, t => by
    show Mr g t t t * pr g (t + 1) (d + 1) = Mr g t t t * pr g (t + 1) d * _
    rw [pr_snoc g d (t + 1), show t + 1 + d = t + (d + 1) by omega]
    grind
theorem det_M (g : Nat → Rw) (i : Nat) : ∀ d t, (∀ s, t ≤ s → s < t + d → Mr g s s s ≠ 0) → Dt (d + 1) t ((List.range' t d).map (Mr g t) ++ [Mr g t i]) = pr g t d * Mr g (t + d) i (t + d)
  | 0, t, _ => by
    show Mr g t i t * 1 - 0 = 1 * Mr g (t + 0) i (t + 0)
    rw [Nat.add_zero]; grind
  | d + 1, t, h => by
    rw [List.range'_succ, List.map_cons, List.cons_append, dt_step (h t (Nat.le_refl _) (by omega)) (by simp), List.map_append, List.map_map]
    have := det_M g i d (t + 1) (fun s h1 h2 => h s (by omega) (by omega))
    rw [show t + (d + 1) = t + 1 + d by omega]
    show Mr g t t t * Dt (d + 1) (t + 1) (List.map (Mr g (t + 1)) (List.range' (t + 1) d) ++ [Mr g (t + 1) i]) = Mr g t t t * pr g (t + 1) d * _
    rw [this]
    grind
def IsW (q : Rat) : Prop := ∃ z : Int, q = (z : Rat)
theorem IsW.mul {a b : Rat} (h : IsW a) (k : IsW b) : IsW (a * b) := by obtain ⟨x, rfl⟩ := h; obtain ⟨y, rfl⟩ := k; exact ⟨x * y, (Rat.intCast_mul x y).symm⟩
theorem IsW.sub {a b : Rat} (h : IsW a) (k : IsW b) : IsW (a - b) := by obtain ⟨x, rfl⟩ := h; obtain ⟨y, rfl⟩ := k; exact ⟨x - y, (Rat.intCast_sub x y).symm⟩
theorem IsW.one : IsW 1 := ⟨1, rfl⟩
theorem IsW.zero : IsW 0 := ⟨0, rfl⟩
theorem sm_int {f : List Rw → Rat} {c : Nat} (hf : ∀ l : List Rw, (∀ r ∈ l, ∀ j, IsW (r j)) → IsW (f l)) : ∀ (l pre : List Rw), (∀ r ∈ l, ∀ j, IsW (r j)) → (∀ r ∈ pre, ∀ j, IsW (r j)) → IsW (sm f c pre l)
  | [], _, _, _ => IsW.zero
  | r :: l, pre, h, hp => by
    refine ((h r List.mem_cons_self c).mul (hf _ fun q hq => ?_)).sub (sm_int hf l _ (fun q hq => h q (List.mem_cons_of_mem _ hq)) fun q hq => ?_)
    · rcases List.mem_append.1 hq with h1 | h1
      · exact hp q h1
      · exact h q (List.mem_cons_of_mem _ h1)
    · rcases List.mem_append.1 hq with h1 | h1
      · exact hp q h1
      · rw [List.mem_singleton.1 h1]; exact h r List.mem_cons_self
theorem dt_int : ∀ n c (l : List Rw), (∀ r ∈ l, ∀ j, IsW (r j)) → IsW (Dt n c l)
  | 0, _, _, _ => IsW.one
  | n + 1, c, l, h => sm_int (dt_int n (c + 1)) l [] h (fun r hr => by cases hr)
theorem mr_col (g : Nat → Rw) (k j : Nat) : ∀ t, t ≤ k → ∀ i c, Mr (fun s c => if c < k then g s c else g s j) t i c = Mr g t i (if c < k then c else j)
  | 0, _, i, c => by show (if c < k then g i c else g i j) = g i _; split <;> rfl
  | t + 1, h, i, c => by
    have ih := mr_col g k j t (by omega)
    show Mr _ t i c + -(Mr _ t i t / Mr _ t t t) * Mr _ t t c = Mr g t i _ + -(Mr g t i t / Mr g t t t) * Mr g t t _
    rw [ih i c, ih i t, ih t t, ih t c, if_pos (show t < k by omega)]
theorem pr_col (g : Nat → Rw) (k j : Nat) : ∀ d t, t + d ≤ k → pr (fun s c => if c < k then g s c else g s j) t d = pr g t d
  | 0, _, _ => rfl
  | d + 1, t, h => by
    show Mr _ t t t * pr _ (t + 1) d = _ * _
    rw [pr_col g k j d (t + 1) (by omega), mr_col g k j t (by omega) t t, if_pos (show t < k by omega)]
/-- The numerators are whole. -/
theorem minor_int {g : Nat → Rw} (hg : ∀ s c, IsW (g s c)) {k : Nat} (hp : ∀ s, s < k → Mr g s s s ≠ 0) (i j : Nat) : IsW (pr g 0 k * Mr g k i j) := by
  have h := det_M (fun s c => if c < k then g s c else g s j) i k 0 (fun s _ hs => by
    rw [mr_col g k j s (by omega), if_pos (show s < k by omega)]; exact hp s (by omega))
  rw [pr_col g k j k 0 (by omega), Nat.zero_add, mr_col g k j k (Nat.le_refl _), if_neg (Nat.lt_irrefl k)] at h
  rw [← h]
  refine dt_int _ _ _ fun r hr c => ?_
  have hz : ∀ s c, IsW ((fun (s c : Nat) => if c < k then g s c else g s j) s c) := fun s c => by show IsW (if c < k then g s c else g s j); split <;> exact hg _ _
  rcases List.mem_append.1 hr with h1 | h1
  · obtain ⟨q, _, rfl⟩ := List.mem_map.1 h1; exact hz q c
  · rw [List.mem_singleton.1 h1]; exact hz i c
theorem mr_symm {g : Nat → Rw} (hg : ∀ i j, g i j = g j i) : ∀ k i j, Mr g k i j = Mr g k j i
  | 0, i, j => hg i j
  | k + 1, i, j => by
    show Mr g k i j + -(Mr g k i k / Mr g k k k) * Mr g k k j = Mr g k j i + -(Mr g k j k / Mr g k k k) * Mr g k k i
    rw [mr_symm hg k i j, mr_symm hg k k j, mr_symm hg k k i, Rat.div_def, Rat.div_def]
    grind
/-- The products of rows, as fractions. -/
def gU (b : List (List Int)) (i j : Nat) : Int := dotU (b.getD i []) (b.getD j []) (b.getD i []).length
def gR (b : List (List Int)) (i : Nat) : Rw := fun j => ((gU b i j : Int) : Rat)
theorem dotU_comm (xs ys : List Int) : ∀ n, dotU xs ys n = dotU ys xs n
  | 0 => rfl
  | n + 1 => by show dotU xs ys n + _ = dotU ys xs n + _; rw [dotU_comm xs ys n, Int.mul_comm]
/-- Products behind the length are nought. -/
theorem dotU_more {xs ys : List Int} {m : Nat} (h : xs.length ≤ m) : ∀ d, dotU xs ys (m + d) = dotU xs ys m
  | 0 => rfl
  | d + 1 => by
    show dotU xs ys (m + d) + xs.getD (m + d) 0 * _ = _
    rw [dotU_more h d, show xs.getD (m + d) 0 = 0 from by rw [List.getD_eq_getElem?_getD, List.getElem?_eq_none (by omega)]; rfl, Int.zero_mul, Int.add_zero]
theorem gU_symm (b : List (List Int)) (i j : Nat) : gU b i j = gU b j i := by
  unfold gU
  rcases Nat.le_total (b.getD i []).length (b.getD j []).length with h | h
  · obtain ⟨d, hd⟩ := Nat.le.dest h
    rw [← hd, dotU_comm (b.getD j []), dotU_more (Nat.le_refl _) d]
  · obtain ⟨d, hd⟩ := Nat.le.dest h
    rw [← hd, dotU_comm, dotU_more (Nat.le_refl _) d]
theorem gR_symm (b : List (List Int)) (i j : Nat) : gR b i j = gR b j i := by show ((gU b i j : Int) : Rat) = _; rw [gU_symm]; rfl
theorem gR_int (b : List (List Int)) (i j : Nat) : IsW (gR b i j) := ⟨_, rfl⟩
/-- All pivots ahead of n are above nought. -/
def Ok (b : List (List Int)) (n : Nat) : Prop := ∀ k, k < n → 0 < Mr (gR b) k k k
abbrev pb (b : List (List Int)) (k : Nat) : Rat := pr (gR b) 0 k
theorem pb_succ (b : List (List Int)) (k : Nat) : pb b (k + 1) = pb b k * Mr (gR b) k k k := by have := pr_snoc (gR b) k 0; rw [Nat.zero_add] at this; exact this
theorem pb_pos {b : List (List Int)} {n : Nat} (h : Ok b n) : ∀ k, k ≤ n → 0 < pb b k
  | 0, _ => by show (0 : Rat) < 1; decide
  | k + 1, hk => by rw [pb_succ]; exact Rat.mul_pos (pb_pos h k (by omega)) (h k (by omega))
theorem rat_pos_ne {q : Rat} (h : 0 < q) : q ≠ 0 := fun e => by rw [e] at h; exact absurd h (Rat.lt_irrefl)
theorem ok_ne {b : List (List Int)} {n : Nat} (h : Ok b n) {k : Nat} (hk : k < n) : Mr (gR b) k k k ≠ 0 := rat_pos_ne (h k hk)
/-- What the data say, so far. -/
structure DI (b : List (List Int)) (i : Nat) (D : List Int) (L : List (List Int)) : Prop where
  lD : D.length = i + 1
  lL : L.length = i
  ok : Ok b i
  d : ∀ k, k ≤ i → ((D.getD k 0 : Int) : Rat) = pb b k
  lr : ∀ j, j < i → (L.getD j []).length = j
  l : ∀ j k, j < i → k < j → (((L.getD j []).getD k 0 : Int) : Rat) = pb b k * Mr (gR b) k j k
theorem fdiv_exact {x d z : Int} (hd : d ≠ 0) (h : x = d * z) : Int.fdiv x d = z := by subst h; exact Int.mul_fdiv_cancel_left z hd
theorem step_exact {b : List (List Int)} {D Lr row : List Int} {i j k : Nat} {u : Int} (hok : Ok b (k + 1)) (h0 : ((D.getD k 0 : Int) : Rat) = pb b k) (h1 : ((D.getD (k + 1) 0 : Int) : Rat) = pb b (k + 1)) (hu : ((u : Int) : Rat) = pb b k * Mr (gR b) k i j) (hr : ((row.getD k 0 : Int) : Rat) = pb b k * Mr (gR b) k i k) (hl : ((Lr.getD k 0 : Int) : Rat) = pb b k * Mr (gR b) k j k) : ((stepU D Lr row k u : Int) : Rat) = pb b (k + 1) * Mr (gR b) (k + 1) i j := by
  obtain ⟨z, hz⟩ := minor_int (gR_int b) (k := k + 1) (fun s hs => ok_ne hok hs) i j
  have hp := rat_pos_ne (pb_pos hok k (by omega))
  have hm := ok_ne hok (Nat.lt_succ_self k)
  have e : D.getD (k + 1) 0 * u - row.getD k 0 * Lr.getD k 0 = D.getD k 0 * z := by
    refine Rat.intCast_inj.1 ?_
    rw [Rat.intCast_sub, Rat.intCast_mul, Rat.intCast_mul, Rat.intCast_mul, h0, h1, hu, hr, hl, ← hz]
    show pb b (k + 1) * (pb b k * Mr (gR b) k i j) - pb b k * Mr (gR b) k i k * (pb b k * Mr (gR b) k j k) = pb b k * (pb b (k + 1) * (Mr (gR b) k i j + -(Mr (gR b) k i k / Mr (gR b) k k k) * Mr (gR b) k k j))
    rw [pb_succ, mr_symm (gR_symm b) k k j]
    generalize Mr (gR b) k k k = m at hm
    generalize Mr (gR b) k i k = x
    generalize Mr (gR b) k j k = y
    generalize pb b k = p at hp
    grind
  have hd : D.getD k 0 ≠ 0 := fun e0 => by rw [e0] at h0; exact hp h0.symm
  unfold stepU
  rw [fdiv_exact hd e, hz]
theorem red_exact {b : List (List Int)} {D : List Int} {L : List (List Int)} {row : List Int} {i j : Nat} (h : DI b i D L) (hji : j ≤ i) (hr : ∀ k, k < j → ((row.getD k 0 : Int) : Rat) = pb b k * Mr (gR b) k i k) : ∀ k, k ≤ j → ((redU D (pickL L row i j) row (gU b i j) k : Int) : Rat) = pb b k * Mr (gR b) k i j
  | 0, _ => by show ((gU b i j : Int) : Rat) = 1 * ((gU b i j : Int) : Rat); grind
  | k + 1, hk => by
    refine step_exact (fun s hs => h.ok s (by omega)) (h.d k (by omega)) (h.d (k + 1) (by omega)) (red_exact h hji hr k (by omega)) (hr k (by omega)) ?_
    unfold pickL
    split
    · exact h.l j k (by assumption) (by omega)
    · have : j = i := by omega
      subst this; exact hr k (by omega)
theorem row_len {b : List (List Int)} {D : List Int} {L : List (List Int)} {i : Nat} : ∀ j, (rowU b D L i j).length = j
  | 0 => rfl
  | j + 1 => by unfold rowU; rw [List.length_append, row_len j]; rfl
theorem row_exact {b : List (List Int)} {D : List Int} {L : List (List Int)} {i : Nat} (h : DI b i D L) : ∀ j, j ≤ i + 1 → ∀ k, k < j → (((rowU b D L i j).getD k 0 : Int) : Rat) = pb b k * Mr (gR b) k i k
  | 0, _, k, hk => absurd hk (Nat.not_lt_zero _)
  | j + 1, hj, k, hk => by
    unfold rowU
    rcases Nat.lt_or_ge k j with h1 | h1
    · rw [gl_lt (by rw [row_len]; exact h1)]; exact row_exact h j (by omega) k h1
    · rw [gl_eq (by rw [row_len]; omega), show k = j by omega]
      exact red_exact h (by omega) (fun k hk => row_exact h j (by omega) k hk) j (Nat.le_refl _)
theorem row_pos {b : List (List Int)} {D : List Int} {L : List (List Int)} {i : Nat} (h : DI b i D L) : 0 < (rowU b D L i (i + 1)).getD i 0 ↔ 0 < Mr (gR b) i i i := by
  have e := row_exact h (i + 1) (Nat.le_refl _) i (Nat.lt_succ_self i)
  have hp := pb_pos h.ok i (Nat.le_refl _)
  rw [← Rat.intCast_lt_intCast, e]
  show (0 : Rat) < _ ↔ _
  constructor
  · intro h1
    by_cases h2 : 0 < Mr (gR b) i i i
    · exact h2
    · exfalso
      replace h2 := Rat.not_lt.1 h2
      have := Rat.mul_le_mul_of_nonneg_left h2 (Rat.le_of_lt hp)
      rw [Rat.mul_zero] at this
      exact absurd h1 (Rat.not_lt.2 this)
  · exact Rat.mul_pos hp
theorem DI.zero (b : List (List Int)) : DI b 0 [1] [] := ⟨rfl, rfl, fun k hk => absurd hk (Nat.not_lt_zero _), fun k hk => by rw [show k = 0 by omega]; rfl, fun j hj => absurd hj (Nat.not_lt_zero _), fun j k hj => absurd hj (Nat.not_lt_zero _)⟩
theorem DI.step {b : List (List Int)} {D : List Int} {L : List (List Int)} {i : Nat} (h : DI b i D L) (hp : 0 < (rowU b D L i (i + 1)).getD i 0) : DI b (i + 1) (D ++ [(rowU b D L i (i + 1)).getD i 0]) (L ++ [(rowU b D L i (i + 1)).take i]) := by
  have hm := (row_pos h).1 hp
  have hr := row_exact h (i + 1) (Nat.le_refl _)
  refine ⟨by rw [List.length_append, h.lD]; rfl, by rw [List.length_append, h.lL]; rfl, fun k hk => ?_, fun k hk => ?_, fun j hj => ?_, fun j k hj hk => ?_⟩
  · rcases Nat.lt_or_ge k i with h1 | h1
    · exact h.ok k h1
    · rw [show k = i by omega]; exact hm
  · rcases Nat.lt_or_ge k (i + 1) with h1 | h1
    · rw [gl_lt (by rw [h.lD]; exact h1)]; exact h.d k (by omega)
    · rw [gl_eq (by rw [h.lD]; omega), show k = i + 1 by omega, hr i (Nat.lt_succ_self i), pb_succ]
  · rcases Nat.lt_or_ge j i with h1 | h1
    · rw [gl_lt (by rw [h.lL]; exact h1)]; exact h.lr j h1
    · rw [gl_eq (by rw [h.lL]; omega), List.length_take, row_len]; omega
  · rcases Nat.lt_or_ge j i with h1 | h1
    · rw [gl_lt (by rw [h.lL]; exact h1)]; exact h.l j k h1 hk
    · rw [gl_eq (by rw [h.lL]; omega), take_getD (by omega), hr k (by omega), show j = i by omega]
end Go.Proofs.YtekghdfbhbhigaaGreatDoor.V
/- The data of rows, and what refuses them. -/
set_option linter.unusedVariables false
set_option linter.unusedSimpArgs false
set_option maxRecDepth 100000
namespace Go.Proofs.YtekghdfbhbhigaaGreatDoor.V
open Go.RowKit Mt Nml
end Go.Proofs.YtekghdfbhbhigaaGreatDoor.V
/- The document: rows made orthogonal. -/
set_option linter.unusedVariables false
set_option linter.unusedSimpArgs false
set_option maxRecDepth 100000
namespace Go.Proofs.YtekghdfbhbhigaaGreatDoor.V
open Go.RowKit Mt Nml
/-- The coefficients and squared lengths of rows, as fractions. -/
def mR (b : List (List Int)) (i j : Nat) : Rat := Mr (gR b) j i j / Mr (gR b) j j j
def sR (b : List (List Int)) (i : Nat) : Rat := Mr (gR b) i i i
end Go.Proofs.YtekghdfbhbhigaaGreatDoor.V
/- The data of rows: how large, and that the squared length of a sum of rows is what the data say. -/
set_option linter.unusedVariables false
namespace Go.Proofs.YtekghdfbhbhigaaGreatDoor.V
open Mt Nml
theorem RI.row {b : List (List Int)} {D : List Int} {L : List (List Int)} {S i : Nat} (hB : BI S i D L) (hS : ∀ j, j ≤ i → zl (gU b i j) ≤ S) : ∀ j, j ≤ i + 1 → RI S j (rowU b D L i j)
  | 0, _ => RI.zero S
  | j + 1, hj => by
    have h := RI.row hB hS j (by omega)
    unfold rowU
    exact h.snoc (red_bd hB h (by omega) (hS j (by omega)) (Nat.le_refl _))
theorem Ok.mono {b : List (List Int)} {m n : Nat} (h : Ok b n) (hm : m ≤ n) : Ok b m := fun k hk => h k (by omega)
/-- Sums of fractions. -/
def sumN (f : Nat → Rat) : Nat → Rat
  | 0 => 0
  | n + 1 => sumN f n + f n
theorem sum_congr {f g : Nat → Rat} : ∀ {n : Nat}, (∀ i, i < n → f i = g i) → sumN f n = sumN g n
  | 0, _ => rfl
  | n + 1, h => by show sumN f n + f n = sumN g n + g n; rw [sum_congr fun i hi => h i (by omega), h n (by omega)]
theorem sum_add (f g : Nat → Rat) : ∀ n, sumN (fun i => f i + g i) n = sumN f n + sumN g n
  | 0 => by show (0 : Rat) = 0 + 0; grind
  | n + 1 => by show sumN _ n + (f n + g n) = sumN f n + f n + (sumN g n + g n); rw [sum_add f g n]; grind
theorem sum_mul (c : Rat) (f : Nat → Rat) : ∀ n, sumN (fun i => c * f i) n = c * sumN f n
  | 0 => by show (0 : Rat) = c * 0; grind
  | n + 1 => by show sumN _ n + c * f n = c * (sumN f n + f n); rw [sum_mul c f n]; grind
theorem sum_zero {f : Nat → Rat} {n : Nat} (h : ∀ i, i < n → f i = 0) : sumN f n = 0 := by
  rw [sum_congr (g := fun _ => 0 * 0) fun i hi => by rw [h i hi]; grind]
  rw [sum_mul]; grind
theorem sum_swap (f : Nat → Nat → Rat) (m : Nat) : ∀ n, sumN (fun i => sumN (f i) m) n = sumN (fun j => sumN (fun i => f i j) n) m
  | 0 => by show (0 : Rat) = sumN (fun _ => 0) m; exact (sum_zero fun _ _ => rfl).symm
  | n + 1 => by
    show sumN _ n + sumN (f n) m = sumN (fun j => sumN (fun i => f i j) n + f n j) m
    rw [sum_swap f m n, sum_add]
/-- What elimination has done away with. -/
theorem mr_zero {b : List (List Int)} {n : Nat} (h : Ok b n) : ∀ k, k ≤ n → ∀ j, j < k → ∀ c, Mr (gR b) k j c = 0
  | 0, _, j, hj, c => absurd hj (Nat.not_lt_zero _)
  | k + 1, hk, j, hj, c => by
    show Mr (gR b) k j c + -(Mr (gR b) k j k / Mr (gR b) k k k) * Mr (gR b) k k c = 0
    have hm := ok_ne h (show k < n by omega)
    rcases Nat.lt_or_eq_of_le (Nat.le_of_lt_succ hj) with h1 | h1
    · rw [mr_zero h k (by omega) j h1 c, mr_zero h k (by omega) j h1 k]
      rw [Rat.div_def]; grind
    · subst h1
      generalize Mr (gR b) j j j = m at hm
      generalize Mr (gR b) j j c = x
      grind
theorem DI.mu {b : List (List Int)} {n : Nat} {D : List Int} {L : List (List Int)} (h : DI b n D L) {i j : Nat} (hi : i < n) (hj : j < i) : (((L.getD i []).getD j 0 : Int) : Rat) / ((D.getD (j + 1) 0 : Int) : Rat) = mR b i j := by
  have hp := rat_pos_ne (pb_pos h.ok j (by omega))
  have hm := ok_ne h.ok (show j < n by omega)
  rw [h.d (j + 1) (by omega), h.l i j hi hj, pb_succ]
  unfold mR
  generalize Mr (gR b) j j j = m at hm
  generalize Mr (gR b) j i j = x
  generalize pb b j = p at hp
  grind
/-! ### sums of rows -/
theorem DI.good {b : List (List Int)} {n : Nat} {D : List Int} {L : List (List Int)} (h : DI b n D L) (hn : 0 < n) : GoodP D L := by
  have hpos : ∀ k, k ≤ n → 0 < D.getD k 0 := fun k hk => by
    have := pb_pos h.ok k hk
    rw [← h.d k hk] at this
    exact Rat.intCast_pos.1 this
  refine ⟨by rw [h.lL]; exact hn, by rw [h.lD, h.lL], ?_, fun i hi => ?_⟩
  · have := h.d 0 (Nat.zero_le _)
    exact Rat.intCast_inj.1 (this.trans rfl)
  · rw [h.lL] at hi
    exact ⟨h.lr i hi, hpos (i + 1) (by omega)⟩
end Go.Proofs.YtekghdfbhbhigaaGreatDoor.V
/- The nearest point: the normal equations, and how far it is. -/
set_option linter.unusedVariables false
set_option maxRecDepth 100000
namespace Go.Proofs.YtekghdfbhbhigaaGreatDoor.V
open Go.RowKit Mt Nml
/-- The coefficient of a row along a star, whichever. -/
def Wq (b : List (List Int)) (i l : Nat) : Rat := Mr (gR b) l i l / Mr (gR b) l l l
theorem gram_step {b : List (List Int)} {n : Nat} (h : Ok b n) (i m : Nat) : ∀ k, k ≤ n → gR b i m = sumN (fun l => Wq b i l * (Wq b m l * sR b l)) k + Mr (gR b) k i m
  | 0, _ => by show gR b i m = (0 : Rat) + gR b i m; grind
  | k + 1, hk => by
    have hm := ok_ne h (show k < n by omega)
    rw [gram_step h i m k (by omega)]
    show sumN _ k + Mr (gR b) k i m = sumN _ k + Wq b i k * (Wq b m k * sR b k) + (Mr (gR b) k i m + -(Mr (gR b) k i k / Mr (gR b) k k k) * Mr (gR b) k k m)
    rw [mr_symm (gR_symm b) k k m]
    unfold Wq sR
    generalize Mr (gR b) k k k = q at hm
    generalize Mr (gR b) k i k = x
    generalize Mr (gR b) k m k = y
    grind
theorem gram_W {b : List (List Int)} {n : Nat} (h : Ok b n) {i : Nat} (hi : i < n) (m : Nat) : gR b i m = sumN (fun l => Wq b i l * (Wq b m l * sR b l)) n := by
  rw [gram_step h i m n (Nat.le_refl _), mr_zero h n (Nat.le_refl _) i hi m]
  grind
/-- What is known of the coefficients: Y along the stars, C along the rows. -/
structure Near (b : List (List Int)) (n : Nat) (a Y C : Nat → Rat) : Prop where
  ok : Ok b n
  y : ∀ i, i < n → a i = sumN (fun l => Wq b i l * sR b l * Y l) n
  c : ∀ l, l < n → Y l = sumN (fun i => C i * Wq b i l) n
/-- The normal equations. -/
theorem Near.normal {b : List (List Int)} {n : Nat} {a Y C : Nat → Rat} (h : Near b n a Y C) {m : Nat} (hm : m < n) : sumN (fun i => C i * gR b i m) n = a m := by
  rw [sum_congr (g := fun i => sumN (fun l => C i * (Wq b i l * (Wq b m l * sR b l))) n) (fun i hi => by rw [gram_W h.ok hi m, sum_mul]), sum_swap, h.y m hm]
  refine sum_congr fun l hl => ?_
  rw [sum_congr (g := fun i => (Wq b m l * sR b l) * (C i * Wq b i l)) (fun i _ => by grind), sum_mul, ← h.c l hl]
/-! ### columns -/
abbrev tq (ts : List (Int × Int)) (k : Nat) : Rat := ((ts.getD k (0, 0)).1 : Rat) / ((ts.getD k (0, 0)).2 : Rat)
/-- The product of what is left and a row, term by term. -/
def nq (b : List (List Int)) (c : List Rat) (ts : List (Int × Int)) (n i : Nat) : Nat → Rat
  | 0 => 0
  | k + 1 => nq b c ts n i k + lq b c (tq ts k) k n * (((b.getD i []).getD k 0 : Int) : Rat)
end Go.Proofs.YtekghdfbhbhigaaGreatDoor.V
/- A search tree: centres and parts as plain sums, and how large they are. -/
set_option linter.unusedVariables false
set_option maxRecDepth 100000
namespace Go.Proofs.YtekghdfbhbhigaaGreatDoor.V
open Go.RowKit Mt Nml
/-- The target's coefficient of a row. -/
def aqT (ts : List (Int × Int)) (i : Nat) : Rat := if ts.length = 0 then 0 else tq ts i
/-- The centre of a suffix, after k of its numbers: i is the row, m the last row. -/
def ctT (D : List Int) (L : List (List Int)) (ts : List (Int × Int)) (s : List Int) (m i : Nat) : Nat → Rat
  | 0 => aqT ts i
  | k + 1 => ctT D L ts s m i k - (((s.getD k 0 : Int) : Rat) - aqT ts (m - k)) * muq D L (m - k) i
/-- The part of a suffix's first k numbers. -/
def ptT (D : List Int) (L : List (List Int)) (ts : List (Int × Int)) (s : List Int) (m : Nat) : Nat → Rat
  | 0 => 0
  | k + 1 => ptT D L ts s m k + (((s.getD k 0 : Int) : Rat) - ctT D L ts s m (m - k) k) * (((s.getD k 0 : Int) : Rat) - ctT D L ts s m (m - k) k) * stq D (m - k)
theorem ctT_ext {D : List Int} {L : List (List Int)} {ts : List (Int × Int)} {s s' : List Int} {m i : Nat} : ∀ {k : Nat}, (∀ j, j < k → s.getD j 0 = s'.getD j 0) → ctT D L ts s m i k = ctT D L ts s' m i k
  | 0, _ => rfl
  | k + 1, h => by
    show ctT D L ts s m i k - _ = ctT D L ts s' m i k - _
    rw [ctT_ext (k := k) fun j hj => h j (by omega), h k (by omega)]
theorem ptT_ext {D : List Int} {L : List (List Int)} {ts : List (Int × Int)} {s s' : List Int} {m : Nat} : ∀ {k : Nat}, (∀ j, j < k → s.getD j 0 = s'.getD j 0) → ptT D L ts s m k = ptT D L ts s' m k
  | 0, _ => rfl
  | k + 1, h => by
    show ptT D L ts s m k + _ = ptT D L ts s' m k + _
    rw [ptT_ext (k := k) fun j hj => h j (by omega), h k (by omega), ctT_ext (k := k) fun j hj => h j (by omega)]
/-! ### sizes -/
theorem QB.nd {q : Rat} {k : Nat} (h : QB q k) : 0 < ((q.den : Int)) ∧ ((q.num : Rat) / (((q.den : Int)) : Rat) = q) ∧ zl q.num ≤ k ∧ zl (q.den : Int) ≤ k := ⟨den_p' q, rat_nd q, h.1, h.2⟩
theorem QB.add2 {x y : Rat} {k l : Nat} (h : QB x k) (h' : QB y l) : QB (x + y) (k + l + 1) := QB.addv (QB.nd h).1 (QB.nd h').1 (QB.nd h).2.1 (QB.nd h').2.1 h.1 h.2 h'.1 h'.2
theorem QB.sub2 {x y : Rat} {k l : Nat} (h : QB x k) (h' : QB y l) : QB (x - y) (k + l + 1) := QB.subv (QB.nd h).1 (QB.nd h').1 (QB.nd h).2.1 (QB.nd h').2.1 h.1 h.2 h'.1 h'.2
theorem QB.mul2 {x y : Rat} {k l : Nat} (h : QB x k) (h' : QB y l) : QB (x * y) (k + l) := QB.mulv (QB.nd h).1 (QB.nd h').1 (QB.nd h).2.1 (QB.nd h').2.1 h.1 h.2 h'.1 h'.2
theorem QB.int {z : Int} {k : Nat} (h : zl z ≤ k) : QB (z : Rat) (k + 1) := by
  have := qb_div h zl_one (by decide : (1 : Int) ≠ 0)
  rw [show (z : Rat) / ((1 : Int) : Rat) = (z : Rat) from by rw [show ((1 : Int) : Rat) = 1 from rfl]; grind] at this
  exact QB.mono this (by omega)
theorem QB.frac {a b : Int} {k : Nat} (h : zl a ≤ k) (h' : zl b ≤ k) (hb : b ≠ 0) : QB ((a : Rat) / (b : Rat)) k := by
  have := qb_div h h' hb
  rwa [Nat.max_self] at this
/-- What is known of a tree: as many rows as m + 1, numbers of at most k limbs. -/
structure TrS (D : List Int) (L : List (List Int)) (ts : List (Int × Int)) (n k : Nat) : Prop where
  good : GoodP D L
  len : L.length = n
  twelve : n ≤ 12
  tl : ts.length = 0 ∨ ts.length = n
  tp : ∀ i, i < ts.length → 0 < (ts.getD i (0, 0)).2
  zt : ∀ i, i < ts.length → zl (ts.getD i (0, 0)).1 ≤ k ∧ zl (ts.getD i (0, 0)).2 ≤ k
  zD : ∀ j, zl (D.getD j 0) ≤ k
  zL : ∀ i j, zl ((L.getD j []).getD i 0) ≤ k
  hk : k ≤ 16777216
namespace TrS
variable {D : List Int} {L : List (List Int)} {ts : List (Int × Int)} {n k : Nat} (h : TrS D L ts n k)
include h
theorem pos : 0 < n := by have := h.good.1; have := h.len; omega
theorem dp {i : Nat} (hi : i ≤ n) : 0 < D.getD i 0 := h.good.pos (by rw [h.len]; exact hi)
theorem a {i : Nat} (hi : i < n) : QB (aqT ts i) (k + 2) := by
  unfold aqT
  split
  · exact QB.mono (QB.int (z := 0) (k := 0) (by rw [zl_zero]; exact Nat.le_refl _)) (by omega)
  · rename_i h0
    rcases h.tl with h1 | h1
    · exact absurd h1 h0
    · have := h.tp i (by omega)
      exact QB.mono (QB.frac (h.zt i (by omega)).1 (h.zt i (by omega)).2 (by omega)) (by omega)
theorem mu {i j : Nat} (hi : i ≤ n) (hj : j < i) : QB (muq D L i j) k := QB.frac (h.zL _ _) (h.zD _) (by have := h.dp (i := j + 1) (by omega); omega)
theorem st {i : Nat} (hi : i < n) : QB (stq D i) k := QB.frac (h.zD _) (h.zD _) (by have := h.dp (i := i) (by omega); omega)
theorem ct {s : List Int} (hs : ∀ j, zl (s.getD j 0) ≤ k) {m i : Nat} (hm : m + 1 = n) : ∀ {c : Nat}, i + c ≤ m → QB (ctT D L ts s m i c) (k + 2 + c * (3 * k + 6))
  | 0, hc => QB.mono (h.a (by omega)) (by omega)
  | c + 1, hc => by
    have h1 := ct hs (m := m) (i := i) hm (c := c) (by omega)
    have h2 := QB.mul2 (QB.sub2 (QB.int (hs c)) (h.a (i := m - c) (by omega))) (h.mu (i := m - c) (j := i) (by omega) (by omega))
    have h3 := QB.sub2 h1 h2
    refine QB.mono h3 ?_
    have e : (c + 1) * (3 * k + 6) = c * (3 * k + 6) + (3 * k + 6) := Nat.succ_mul _ _
    omega
/-- One size for all centres. -/
theorem ct' {s : List Int} (hs : ∀ j, zl (s.getD j 0) ≤ k) {m i c : Nat} (hm : m + 1 = n) (hc : i + c ≤ m) : QB (ctT D L ts s m i c) 600000000 := by
  have h1 := h.ct hs hm hc
  have h2 := h.hk
  have h3 := h.twelve
  have h4 : c * (3 * k + 6) ≤ 11 * 50331654 := Nat.mul_le_mul (by omega) (by omega)
  exact QB.mono h1 (by omega)
theorem pt {s : List Int} (hs : ∀ j, zl (s.getD j 0) ≤ k) {m : Nat} (hm : m + 1 = n) : ∀ {c : Nat}, c ≤ n → QB (ptT D L ts s m c) (1 + c * 1250331653)
  | 0, hc => QB.int (z := 0) (k := 0) (by rw [zl_zero]; exact Nat.le_refl _)
  | c + 1, hc => by
    have h1 := pt hs hm (c := c) (by omega)
    have h2 := QB.sub2 (QB.int (hs c)) (h.ct' hs (m := m) (i := m - c) (c := c) hm (by omega))
    have h3 := QB.add2 h1 (QB.mul2 (QB.mul2 h2 h2) (h.st (i := m - c) (by omega)))
    have h4 := h.hk
    refine QB.mono h3 ?_
    have e : (c + 1) * 1250331653 = c * 1250331653 + 1250331653 := Nat.succ_mul _ _
    omega
/-- One size for all parts. -/
theorem pt' {s : List Int} (hs : ∀ j, zl (s.getD j 0) ≤ k) {m c : Nat} (hm : m + 1 = n) (hc : c ≤ n) : QB (ptT D L ts s m c) 15100000000 := by
  have h3 := h.twelve
  have h4 : c * 1250331653 ≤ 12 * 1250331653 := Nat.mul_le_mul_right _ (by omega)
  exact QB.mono (h.pt hs hm hc) (by omega)
end TrS
/-! ### a leaf's part is a squared length -/
end Go.Proofs.YtekghdfbhbhigaaGreatDoor.V
/- What a basis is; sums of rows. -/
set_option linter.unusedVariables false
set_option linter.unusedSimpArgs false
set_option maxRecDepth 100000
namespace Go.Proofs.YtekghdfbhbhigaaGreatDoor.V
open Go.RowKit Mt Nml
end Go.Proofs.YtekghdfbhbhigaaGreatDoor.V
/- The law of the lengths. -/
set_option linter.unusedVariables false
set_option linter.unusedSimpArgs false
set_option maxRecDepth 100000
namespace Go.Proofs.YtekghdfbhbhigaaGreatDoor.V
open Go.RowKit Mt Nml
theorem shr_zero {b : List (List Int)} {q : Bool} (h : ShR b q 0) : ¬ BigB b q ∧ b.length ≠ 0 ∧ ¬ BadB b := by
  have h1 : ¬ BigB b q := fun k => by have := h.big k; omega
  have h2 : b.length ≠ 0 := fun k => by have := h.nil h1 k; omega
  exact ⟨h1, h2, fun k => by have := h.bad h1 h2 k; omega⟩
end Go.Proofs.YtekghdfbhbhigaaGreatDoor.V
/- A filter over data and a target: norms. -/
set_option linter.unusedVariables false
set_option linter.unusedSimpArgs false
set_option maxRecDepth 100000
namespace Go.Proofs.YtekghdfbhbhigaaGreatDoor.V
open Go.RowKit Mt Nml
theorem fnc_le {f : FuncId} : (T.c (.func (.func f) #[] #[])).le (T.fn f []) := fun β u v h => ⟨[], h, trivial⟩
theorem take_snoc {α : Type} {l : List α} {i : Nat} {d : α} (h : i < l.length) : l.take i ++ [l.getD i d] = l.take (i + 1) := by
  rw [List.getD_eq_getElem?_getD, List.getElem?_eq_getElem h, Option.getD_some, List.take_append_getElem h]
/-- -1, 0, 1: below, the same, above. -/
def cq (x y : Rat) : Int := if x < y then -1 else if y < x then 1 else 0
theorem sgnc_q {a b c d : Int} {x y : Rat} (hb : 0 < b) (hd : 0 < d) (e : (a : Rat) / (b : Rat) = x) (e2 : (c : Rat) / (d : Rat) = y) : sgnc (a * d) (c * b) = cq x y := by
  have hbr : (0 : Rat) < (b : Rat) := Rat.intCast_pos.2 hb
  have hdr : (0 : Rat) < (d : Rat) := Rat.intCast_pos.2 hd
  have h1 : x < y ↔ a * d < c * b := by
    rw [← e, ← e2, Rat.div_lt_iff hbr, Rat.div_def, Rat.mul_assoc, Rat.mul_comm ((d : Rat)⁻¹), ← Rat.mul_assoc, ← Rat.div_def, Rat.lt_div_iff hdr, ← Rat.intCast_mul, ← Rat.intCast_mul, Rat.intCast_lt_intCast]
  have h2 : y < x ↔ c * b < a * d := by
    rw [← e, ← e2, Rat.div_lt_iff hdr, Rat.div_def, Rat.mul_assoc, Rat.mul_comm ((b : Rat)⁻¹), ← Rat.mul_assoc, ← Rat.div_def, Rat.lt_div_iff hbr, ← Rat.intCast_mul, ← Rat.intCast_mul, Rat.intCast_lt_intCast]
  unfold cq sgnc
  simp only [h1, h2]
theorem rv_Cmp {x y : Rat} {k l : Nat} (hk : k ≤ 17179869184) (hl : l ≤ 17179869184) : Fn Tryz.prog 23 [T.V x k, T.V y l] [] [] [] (T.tup [T.c (.int .i64 (cq x y)), T.c (.int .i64 0)]) := fn_v [] fun p p1 p2 p3 p4 => fn_v [T.Qi p.1 p.2 k] (Bs := []) fun q q1 q2 q3 q4 => fn_out (rat_CmpG p1 q1 hk hl) (tup_le ⟨ci (sgnc_q p1 q1 p2 q2), .refl _, trivial⟩)

end Go.Proofs.YtekghdfbhbhigaaGreatDoor.V
/- Whole numbers by how near they are to a fraction: the nearest, the k-th, the one behind another one. -/
set_option linter.unusedVariables false
set_option maxRecDepth 100000
namespace Go.Proofs.YtekghdfbhbhigaaGreatDoor.V
open Go.RowKit Mt Nml
theorem rle_div {z a b : Int} (hb : 0 < b) : (z : Rat) ≤ (a : Rat) / (b : Rat) ↔ z * b ≤ a := by
  have hbr : (0 : Rat) < (b : Rat) := Rat.intCast_pos.2 hb
  rw [← Rat.not_lt, Rat.div_lt_iff hbr, ← Rat.intCast_mul, Rat.intCast_lt_intCast, Int.not_lt]
/-- A fraction rounded down. -/
def flo (q : Rat) : Int := Int.fdiv q.num (q.den : Int)
theorem flo_iff {q : Rat} {z : Int} : flo q = z ↔ (z : Rat) ≤ q ∧ q < (z : Rat) + 1 := by
  have hd : 0 < ((q.den : Int)) := den_p' q
  have hdr : (0 : Rat) < ((q.den : Int) : Rat) := Rat.intCast_pos.2 hd
  have e := rat_nd q
  have h1 : (z : Rat) ≤ q ↔ z * (q.den : Int) ≤ q.num := by
    conv => lhs; rw [← e]
    exact rle_div hd
  have h2 : q < (z : Rat) + 1 ↔ q.num < (z + 1) * (q.den : Int) := by
    conv => lhs; rw [← e]
    rw [Rat.div_lt_iff hdr, show ((z : Rat) + 1) = ((z + 1 : Int) : Rat) from by rw [Rat.intCast_add]; rfl, ← Rat.intCast_mul, Rat.intCast_lt_intCast]
  rw [h1, h2]
  unfold flo
  rw [Int.fdiv_eq_ediv_of_nonneg _ (by omega)]
  constructor
  · rintro rfl
    exact ⟨Int.ediv_mul_le _ (by omega), Int.lt_ediv_add_one_mul_self _ hd⟩
  · rintro ⟨k1, k2⟩
    have h3 := Int.le_ediv_of_mul_le hd k1
    have h4 := Int.ediv_lt_of_lt_mul hd k2
    omega
theorem flo_frac {a b : Int} (hb : 0 < b) : flo ((a : Rat) / (b : Rat)) = Int.fdiv a b := by
  have hbr : (0 : Rat) < (b : Rat) := Rat.intCast_pos.2 hb
  rw [flo_iff, Int.fdiv_eq_ediv_of_nonneg _ (by omega)]
  refine ⟨?_, ?_⟩
  · rw [rle_div hb]
    exact Int.ediv_mul_le _ (by omega)
  · rw [Rat.div_lt_iff hbr, show (((a / b : Int) : Rat) + 1) = ((a / b + 1 : Int) : Rat) from by rw [Rat.intCast_add]; rfl, ← Rat.intCast_mul, Rat.intCast_lt_intCast]
    exact Int.lt_ediv_add_one_mul_self _ hb
/-- The nearest one, of two the greater one. -/
def nea (c : Rat) : Int := flo (c + 1 / 2)
theorem nea_b (c : Rat) : ((nea c : Int) : Rat) ≤ c + 1 / 2 ∧ c < ((nea c : Int) : Rat) + 1 / 2 := by
  have := flo_iff.1 (show flo (c + 1 / 2) = nea c from rfl)
  refine ⟨this.1, ?_⟩
  have h := this.2
  grind
/-- The k-th number about c. -/
def nth (c : Rat) (k : Nat) : Int := if (k % 2 = 1) = (((nea c : Int) : Rat) ≤ c) then nea c + ((k + 1) / 2 : Nat) else nea c - ((k + 1) / 2 : Nat)
/-- The number behind x. -/
def bhd (c : Rat) (x : Int) : Int := if c < (x : Rat) then flo (2 * c - (x : Rat)) else flo (2 * c - (x : Rat)) + 1
theorem nea_eq (c : Rat) : nea c = (2 * c.num + (c.den : Int)) / (2 * (c.den : Int)) := by
  have hM := den_p' c
  have e : c + 1 / 2 = ((2 * c.num + (c.den : Int) : Int) : Rat) / ((2 * (c.den : Int) : Int) : Rat) := by
    have h1 := rat_nd c
    have hne : (((c.den : Int)) : Rat) ≠ 0 := rat_ne (by omega)
    rw [Rat.intCast_add, Rat.intCast_mul, Rat.intCast_mul]
    show _ = ((2 : Rat) * _ + _) / ((2 : Rat) * _)
    conv => lhs; rw [← h1]
    generalize ((c.num : Int) : Rat) = a
    generalize (((c.den : Int)) : Rat) = d at *
    grind
  unfold nea
  rw [e, flo_frac (by omega), Int.fdiv_eq_ediv_of_nonneg _ (by omega)]
theorem mir_eq (c : Rat) (x : Int) : flo (2 * c - (x : Rat)) = (2 * c.num - (c.den : Int) * x) / (c.den : Int) := by
  have hM := den_p' c
  have e : 2 * c - (x : Rat) = ((2 * c.num - (c.den : Int) * x : Int) : Rat) / (((c.den : Int)) : Rat) := by
    have h1 := rat_nd c
    have hne : (((c.den : Int)) : Rat) ≠ 0 := rat_ne (by omega)
    rw [Rat.intCast_sub, Rat.intCast_mul, Rat.intCast_mul]
    show _ = ((2 : Rat) * _ - _) / _
    conv => lhs; rw [← h1]
    generalize ((c.num : Int) : Rat) = a
    generalize (((c.den : Int)) : Rat) = d at *
    grind
  rw [e, flo_frac hM, Int.fdiv_eq_ediv_of_nonneg _ (by omega)]
theorem int_le_c (c : Rat) (x : Int) : (x : Rat) ≤ c ↔ (c.den : Int) * x ≤ c.num := by
  have hdr : (0 : Rat) < ((c.den : Int) : Rat) := Rat.intCast_pos.2 (den_p' c)
  conv => lhs; rw [← rat_nd c]
  rw [rle_div (den_p' c), Int.mul_comm]
theorem c_lt_int (c : Rat) (x : Int) : c < (x : Rat) ↔ c.num < (c.den : Int) * x := by
  have := int_le_c c x
  rw [← Rat.not_le, this]; omega
end Go.Proofs.YtekghdfbhbhigaaGreatDoor.V
/- Search trees: centres, parts, the numbers about a centre. -/
set_option linter.unusedVariables false
set_option linter.unusedSimpArgs false
set_option maxRecDepth 100000
namespace Go.Proofs.YtekghdfbhbhigaaGreatDoor.V
open Go.RowKit Mt Nml
theorem tyTr : Ty Tryz.prog 35 true 7 := ⟨by kernel_rfl, by kernel_rfl⟩
theorem fTrG : FieldT Tryz.prog 35 0 0 true 2 := FieldT.mk' tyG
theorem fTrT : FieldT Tryz.prog 35 1 2 false 1 := FieldT.mk' tyQs
theorem fTrR : FieldT Tryz.prog 35 2 3 true 4 := FieldT.mk' tyQ
/-- A search tree however told. -/
abbrev T.Tr (D : List Int) (L : List (List Int)) (ts : List (Int × Int)) (a b : Int) (k : Nat) : T := T.st [T.l (cZi k) D, T.l (cL (cZi k)) L, T.l (cQi k) ts, T.Zi a k, T.Zi b k]
theorem nea_frac {a b : Int} (hb : 0 < b) : nea ((a : Rat) / (b : Rat)) = Int.fdiv (a + a + b) (b + b) := by
  have e : (a : Rat) / (b : Rat) + 1 / 2 = ((a + a + b : Int) : Rat) / ((b + b : Int) : Rat) := by
    have hne := rat_ne (show b ≠ 0 by omega)
    rw [Rat.intCast_add, Rat.intCast_add, Rat.intCast_add]
    generalize (a : Rat) = x
    generalize (b : Rat) = y at *
    grind
  unfold nea
  rw [e, flo_frac (by omega)]

theorem zi_Near {a b : Int} {k l : Nat} (hb : 0 < b) (hk : k ≤ 274877906944) (hl : l ≤ 274877906944) : Fn Tryz.prog 73 [T.Zi a k, T.Zi b l] [] [] [] (T.tup [T.Z (Int.fdiv (a + a + b) (b + b)) (k + k + 1 + l + 1 + 3), T.c (.int .i64 0)]) := by
  refine fn_of Tryz.func73 rfl (by show 2 ≤ 24; decide) fun cx hcx => ?_
  refine tri_sub (sl 0 rfl (sl 1 rfl sn)) en ?_
  refine tri_seq ?_
  refine tri_reg mixed hcx ?_ _ _
  refine bx 10 rfl ?_
  refine bx 11 rfl ?_
  refine nw 12 zeZ ?_
  refine asg rfl ?_
  refine ⟨by kernel_rfl, ?_⟩
  refine nx (sl 2 rfl (sl 3 rfl (sl 4 rfl sn))) (el 10 rfl (el 11 rfl (el 12 rfl en))) ?_
  refine tri_seq ?_
  refine tri_reg mixed hcx ?_ _ _
  refine ld rfl rfl tyZ rfl ?_
  refine ld rfl rfl tyZ rfl ?_
  refine ca rfl (h := zi_Add (by omega) (by omega)) (hn := ?_)
  refine ld rfl rfl tyZ rfl ?_
  refine ca rfl (h := zi_Add (by omega) (by omega)) (hn := ?_)
  refine ld rfl rfl tyZ rfl ?_
  refine ld rfl rfl tyZ rfl ?_
  refine ca rfl (h := zi_Add (by omega) (by omega)) (hn := ?_)
  refine ca rfl (h := zi_Floor (by omega) (by omega) (by omega)) (hn := ?_)
  refine mv rfl ?_
  refine ex rfl rfl ?_
  refine ex rfl rfl ?_
  refine ex rfl rfl ?_
  refine nw 123 zeZ ?_
  refine nw 124 zeZ ?_
  refine st rfl rfl rfl tyZ rfl ?_
  refine st rfl rfl rfl tyZ rfl ?_
  refine asg rfl ?_
  refine ⟨by kernel_rfl, ?_⟩
  refine nx (sl 4 rfl (sl 6 rfl (sl 8 rfl sn))) (el 10 rfl (el 11 rfl (el 12 rfl (el 123 rfl (el 124 rfl en))))) ?_
  refine tri_seq ?_
  refine tri_reg mixed hcx ?_ _ _
  refine ld rfl rfl tyZ rfl ?_
  refine mv rfl ?_
  refine st rfl rfl rfl tyZ rfl ?_
  refine asg rfl ?_
  refine ⟨by kernel_rfl, ?_⟩
  refine nx (sl 4 rfl (sl 5 rfl sn)) (el 10 rfl (el 11 rfl (el 12 rfl (el 123 rfl (el 124 rfl en))))) ?_
  refine tri_ret ?_
  repeat (first | refine pn_thenr ?_ | refine pn_blkr ?_)
  exact ret2 hcx rfl (rv_cell (c' := cx) (n := 0) rfl rfl tyZ rfl) (rv_tmp rfl) (.refl _) en

theorem rat_NearG {a b : Int} {k : Nat} (hb : 0 < b) (hk : k ≤ 17179869184) : Fn Tryz.prog 56 [T.Qi a b k] [] [] [] (T.tup [T.Z (Int.fdiv (a + a + b) (b + b)) (k + k + 1 + k + 1 + 3), T.c (.int .i64 0)]) := by
  refine fn_of Tryz.func56 rfl (by show 1 ≤ 23; decide) fun cx hcx => ?_
  refine tri_sub (sl 0 rfl sn) en ?_
  refine tri_seq ?_
  refine tri_reg mixed hcx ?_ _ _
  refine bxs 10 rfl ?_
  refine nw 11 zeZ ?_
  refine asg rfl ?_
  refine ⟨by kernel_rfl, ?_⟩
  refine nx (sl 1 rfl (sl 2 rfl sn)) (el 10 rfl (el 11 rfl en)) ?_
  refine tri_seq ?_
  refine tri_seq ?_
  refine tri_reg mixed hcx ?_ _ _
  refine ld rfl rfl tyQ rfl ?_
  refine bs (c := cQi k) (xs := [(a, b)]) slQs rfl ⟨.refl _, trivial⟩ ?_
  refine ca rfl (h := rat_validG (by omega) (by simp) (fun i hi => by match i, hi with | 0, _ => exact hb)) (hn := ?_)
  refine asg rfl ?_
  refine ⟨by kernel_rfl, ?_⟩
  refine nx (sl 1 rfl (sl 2 rfl (sl 4 rfl sn))) (el 10 rfl (el 11 rfl en)) ?_
  refine tri_seq ?_
  refine tri_reg mixed hcx ?_ _ _
  refine mv rfl ?_
  refine cne rfl rfl (decide_eq_false (by omega)) ?_
  refine ⟨by kernel_rfl, ?_⟩
  refine nx (sl 1 rfl (sl 2 rfl (sl 4 rfl (sl 11 rfl sn)))) (el 10 rfl (el 11 rfl en)) ?_
  refine tri_false rfl rfl ?_
  refine tri_skip ?_
  refine nx (sl 1 rfl (sl 2 rfl sn)) (el 10 rfl (el 11 rfl en)) ?_
  refine tri_seq ?_
  refine tri_reg mixed hcx ?_ _ _
  refine fa rfl fNum 0 ?_
  refine ld rfl rfl tyZ rfl ?_
  refine fa rfl fDen 2 ?_
  refine ld rfl rfl tyZ rfl ?_
  refine ca rfl (h := zi_Near hb (by omega) (by omega)) (hn := ?_)
  refine mv rfl ?_
  refine ex rfl rfl ?_
  refine ex rfl rfl ?_
  refine nw 418 zeZ ?_
  refine st rfl rfl rfl tyZ rfl ?_
  refine asg rfl ?_
  refine ⟨by kernel_rfl, ?_⟩
  refine nx (sl 2 rfl (sl 5 rfl sn)) (el 10 rfl (el 11 rfl (el 418 rfl en))) ?_
  refine tri_seq ?_
  refine tri_reg mixed hcx ?_ _ _
  refine ld rfl rfl tyZ rfl ?_
  refine st rfl rfl rfl tyZ rfl ?_
  refine asg rfl ?_
  refine ⟨by kernel_rfl, ?_⟩
  refine nx (sl 2 rfl (sl 3 rfl sn)) (el 10 rfl (el 11 rfl (el 418 rfl en))) ?_
  refine tri_ret ?_
  repeat (first | refine pn_thenr ?_ | refine pn_blkr ?_)
  exact ret2 hcx rfl (rv_cell (c' := cx) (n := 0) rfl rfl tyZ rfl) (rv_tmp rfl) (.refl _) en

theorem rat_FloorG {a b : Int} {k : Nat} (hb : 0 < b) (hk : k ≤ 17179869184) : Fn Tryz.prog 76 [T.Qi a b k] [] [] [] (T.tup [T.Z (Int.fdiv a b) (k + 3), T.c (.int .i64 0)]) := by
  refine fn_of Tryz.func76 rfl (by show 1 ≤ 25; decide) fun cx hcx => ?_
  refine tri_sub (sl 0 rfl sn) en ?_
  refine tri_seq ?_
  refine tri_reg mixed hcx ?_ _ _
  refine bxs 10 rfl ?_
  refine nw 11 zeZ ?_
  refine asg rfl ?_
  refine ⟨by kernel_rfl, ?_⟩
  refine nx (sl 1 rfl (sl 2 rfl sn)) (el 10 rfl (el 11 rfl en)) ?_
  refine tri_seq ?_
  refine tri_seq ?_
  refine tri_reg mixed hcx ?_ _ _
  refine ld rfl rfl tyQ rfl ?_
  refine bs (c := cQi k) (xs := [(a, b)]) slQs rfl ⟨.refl _, trivial⟩ ?_
  refine ca rfl (h := rat_validG (by omega) (by simp) (fun i hi => by match i, hi with | 0, _ => exact hb)) (hn := ?_)
  refine asg rfl ?_
  refine ⟨by kernel_rfl, ?_⟩
  refine nx (sl 1 rfl (sl 2 rfl (sl 4 rfl sn))) (el 10 rfl (el 11 rfl en)) ?_
  refine tri_seq ?_
  refine tri_reg mixed hcx ?_ _ _
  refine mv rfl ?_
  refine cne rfl rfl (decide_eq_false (by omega)) ?_
  refine ⟨by kernel_rfl, ?_⟩
  refine nx (sl 1 rfl (sl 2 rfl (sl 4 rfl (sl 12 rfl sn)))) (el 10 rfl (el 11 rfl en)) ?_
  refine tri_false rfl rfl ?_
  refine tri_skip ?_
  refine nx (sl 1 rfl (sl 2 rfl sn)) (el 10 rfl (el 11 rfl en)) ?_
  refine tri_seq ?_
  refine tri_reg mixed hcx ?_ _ _
  refine fa rfl fNum 0 ?_
  refine ld rfl rfl tyZ rfl ?_
  refine fa rfl fDen 2 ?_
  refine ld rfl rfl tyZ rfl ?_
  refine ca rfl (h := zi_Floor (by omega) (by omega) (by omega)) (hn := ?_)
  refine mv rfl ?_
  refine ex rfl rfl ?_
  refine ex rfl rfl ?_
  refine ex rfl rfl ?_
  refine nw 419 zeZ ?_
  refine nw 420 zeZ ?_
  refine st rfl rfl rfl tyZ rfl ?_
  refine st rfl rfl rfl tyZ rfl ?_
  refine asg rfl ?_
  refine ⟨by kernel_rfl, ?_⟩
  refine nx (sl 2 rfl (sl 5 rfl sn)) (el 10 rfl (el 11 rfl (el 419 rfl (el 420 rfl en)))) ?_
  refine tri_seq ?_
  refine tri_reg mixed hcx ?_ _ _
  refine ld rfl rfl tyZ rfl ?_
  refine st rfl rfl rfl tyZ rfl ?_
  refine asg rfl ?_
  refine ⟨by kernel_rfl, ?_⟩
  refine nx (sl 2 rfl (sl 3 rfl sn)) (el 10 rfl (el 11 rfl (el 419 rfl (el 420 rfl en)))) ?_
  refine tri_ret ?_
  repeat (first | refine pn_thenr ?_ | refine pn_blkr ?_)
  exact ret2 hcx rfl (rv_cell (c' := cx) (n := 0) rfl rfl tyZ rfl) (rv_tmp rfl) (.refl _) en

theorem nea_zl {a b : Int} {k : Nat} (hb : 0 < b) (h1 : zl a ≤ k) (h2 : zl b ≤ k) : zl (Int.fdiv (a + a + b) (b + b)) ≤ k + 2 := zl_fdiv (by omega) (zl_add_max (zl_add_max h1 h1) (Nat.le_trans h2 (by omega)))

theorem rv_Near {x : Rat} {k : Nat} (hk : k ≤ 17179869184) : Fn Tryz.prog 56 [T.V x k] [] [] [] (T.tup [T.Z (nea x) (k + 2), T.c (.int .i64 0)]) := fn_v [] (Bs := []) fun p p1 p2 p3 p4 => fn_out (rat_NearG p1 hk) (tup_le ⟨by rw [← p2, nea_frac p1]; exact z_as (nea_zl p1 p3 p4), .refl _, trivial⟩)

theorem rv_Floor {x : Rat} {k : Nat} (hk : k ≤ 17179869184) : Fn Tryz.prog 76 [T.V x k] [] [] [] (T.tup [T.Z (flo x) k, T.c (.int .i64 0)]) := fn_v [] (Bs := []) fun p p1 p2 p3 p4 => fn_out (rat_FloorG p1 hk) (tup_le ⟨by rw [← p2, flo_frac p1]; exact z_as (zl_fdiv p1 p3), .refl _, trivial⟩)

theorem cq_pos {x y : Rat} (h : y < x) : cq x y = 1 := by
  unfold cq
  rw [if_neg (Rat.not_lt.2 (Rat.le_of_lt h)), if_pos h]
theorem cq_npos {x y : Rat} (h : ¬ y < x) : cq x y ≤ 0 := by
  unfold cq
  rw [if_neg h]
  split <;> omega
theorem z_eqz {z z' : Int} {k k' : Nat} (e : z = z') (hk : k ≤ k') : (T.Z z k).le (T.Z z' k') := by subst e; exact z_mono hk

theorem sg_nn {a : Int} (h : 0 ≤ a) : 0 ≤ sg a := by unfold sg sgnc; split <;> (try split) <;> omega

theorem t_Valid {D : List Int} {L : List (List Int)} {ts : List (Int × Int)} {a b : Int} {n k : Nat} (h : TrS D L ts n k) (hb : 0 < b) (ha : 0 ≤ a) : Fn Tryz.prog 49 [T.Tr D L ts a b k] [] [] [] (T.c (.int .i64 0)) := by
  refine fn_of Tryz.func49 rfl (by show 1 ≤ 61; decide) fun cx hcx => ?_
  refine tri_sub (sl 0 rfl sn) en ?_
  have hn12 := h.twelve
  have hkk := h.hk
  have hlL := h.len
  have hn0 := h.pos
  have hsb : sg b = 1 := sg_pos hb
  have hsa : 0 ≤ sg a := sg_nn ha
  have hDl : D.length = L.length + 1 := h.good.2.1
  refine tri_seq ?_
  refine tri_reg mixed hcx ?_ _ _
  refine bxs 10 rfl ?_
  refine asg rfl ?_
  refine ⟨by kernel_rfl, ?_⟩
  refine nx (sl 1 rfl sn) (el 10 rfl en) ?_
  refine tri_seq ?_
  refine tri_reg mixed hcx ?_ _ _
  refine fa rfl fTrG 0 ?_
  refine fa rfl fL 1 ?_
  refine ld rfl rfl tyZss rfl ?_
  refine ln slZss rfl ?_
  refine asg rfl ?_
  refine ⟨by kernel_rfl, ?_⟩
  refine nx (sl 1 rfl (sl 3 rfl sn)) (el 10 rfl en) ?_
  refine tri_seq ?_
  refine tri_seq ?_
  rcases h.tl with htl | htl
  · refine tri_reg mixed hcx ?_ _ _
    refine mv rfl ?_
    refine cgt rfl rfl (decide_eq_false (by omega)) ?_
    refine mv rfl ?_
    refine fa rfl fTrT 2 ?_ (hg := gd1)
    refine ld rfl rfl tyQs rfl ?_ (hg := gd1)
    refine ln slQs rfl ?_ (hg := gd1)
    refine cne rfl rfl (decide_eq_false (by omega)) ?_ (hg := gd1)
    refine mv rfl ?_ (hg := gd1)
    refine j_off rfl rfl rfl rfl ?_
    refine j_off rfl rfl rfl rfl ?_
    refine j_off rfl rfl rfl rfl ?_
    refine j_off rfl rfl rfl rfl ?_
    refine j_off rfl rfl rfl rfl ?_
    refine pk rfl rfl ?_ (hg := gd1)
    refine pk rfl rfl ?_
    refine mv rfl ?_
    refine fa rfl fTrR 3 ?_ (hg := gd1)
    refine fa rfl fDen 5 ?_ (hg := gd1)
    refine ld rfl rfl tyZ rfl ?_ (hg := gd1)
    refine ca rfl (h := zi_Sign (by omega)) (hn := ?_) (hg := gd1)
    refine cle rfl rfl (decide_eq_false (by omega)) ?_ (hg := gd1)
    refine pk rfl rfl ?_
    refine mv rfl ?_
    refine fa rfl fTrR 3 ?_ (hg := gd1)
    refine fa rfl fNum 3 ?_ (hg := gd1)
    refine ld rfl rfl tyZ rfl ?_ (hg := gd1)
    refine ca rfl (h := zi_Sign (by omega)) (hn := ?_) (hg := gd1)
    refine clt rfl rfl (decide_eq_false (by omega)) ?_ (hg := gd1)
    refine pk rfl rfl ?_
    refine ⟨by kernel_rfl, ?_⟩
    refine nx (sl 1 rfl (sl 40 rfl sn)) (el 10 rfl en) ?_
    refine tri_false rfl rfl ?_
    refine tri_skip ?_
    refine nx (sl 1 rfl sn) (el 10 rfl en) ?_
    refine tri_seq ?_
    refine tri_seq ?_
    refine tri_reg mixed hcx ?_ _ _
    refine fa rfl fTrG 0 ?_
    refine ld rfl rfl tyG rfl ?_
    refine ca rfl (h := g_Star (k := k) (i := 0) (by omega) (by omega) h.good h.good.1) (hn := ?_)
    refine mv rfl ?_
    refine ex rfl rfl ?_
    refine ex rfl rfl ?_
    refine nw 416 zeQ ?_
    refine st rfl rfl rfl tyQ rfl ?_
    refine asg rfl ?_
    refine ⟨by kernel_rfl, ?_⟩
    refine nx (sl 1 rfl (sl 5 rfl sn)) (el 10 rfl (el 416 rfl en)) ?_
    refine tri_seq ?_
    refine tri_reg mixed hcx ?_ _ _
    refine mv rfl ?_
    refine cne rfl rfl (decide_eq_false (by omega)) ?_
    refine ⟨by kernel_rfl, ?_⟩
    refine nx (sl 1 rfl (sl 48 rfl sn)) (el 10 rfl (el 416 rfl en)) ?_
    refine tri_false rfl rfl ?_
    refine tri_skip ?_
    refine nx (sl 1 rfl sn) (el 10 rfl (el 416 rfl en)) ?_
    refine tri_seq ?_
    refine tri_seq ?_
    refine tri_reg mixed hcx ?_ _ _
    refine fa rfl fTrT 2 ?_
    refine ld rfl rfl tyQs rfl ?_
    refine ln slQs rfl ?_
    refine mv rfl ?_
    refine ⟨by kernel_rfl, ?_⟩
    refine nx (sl 50 rfl (sl 51 rfl (sl 52 rfl sn))) (el 10 rfl (el 416 rfl en)) ?_
    refine tri_block ?_
    refine tri_loop (ι := Nat) (fun i => [(50, T.l (cQi k) ts), (51, T.c (.int .i64 (ts.length : Int))), (52, T.c (.int .i64 (i : Int)))]) (fun i => []) (fun i => ts.length - i) (fun i => (i ≤ ts.length)) 0 (Nat.zero_le _) (sl 50 rfl (sl 51 rfl (sl 52 rfl sn))) en ?_
    rintro i hi
    refine tri_sub (sl 50 rfl (sl 51 rfl (sl 52 rfl sn))) en ?_
    refine tri_seq ?_
    refine tri_reg mixed hcx ?_ _ _
    refine clt rfl rfl rfl ?_
    refine ⟨by kernel_rfl, ?_⟩
    refine nx (sl 50 rfl (sl 51 rfl (sl 52 rfl (sl 53 rfl sn)))) en ?_
    refine tri_seq ?_
    refine tri_if rfl (fun hc => ?_) (fun hc => ?_)
    · have hte : sg (ts.getD i (cQi k).dflt).2 = 1 := sg_pos (h.tp i (by omega))
      refine tri_skip ?_
      refine nx (sl 50 rfl (sl 51 rfl (sl 52 rfl sn))) en ?_
      refine tri_seq ?_
      refine tri_block ?_
      refine tri_seq ?_
      refine tri_reg mixed hcx ?_ _ _
      refine ix rfl rfl slQs ⟨rfl, by omega⟩ ?_
      refine lf rfl tyQ ?_
      refine nw 912 zeQ ?_
      refine sts (zz := [T.Zi (ts.getD i (cQi k).dflt).1 k, T.Zi (ts.getD i (cQi k).dflt).2 k]) rfl rfl rfl tyQ rfl ?_
      refine ⟨by kernel_rfl, ?_⟩
      refine nx (sl 7 rfl (sl 50 rfl (sl 51 rfl (sl 52 rfl sn)))) (el 912 rfl en) ?_
      refine tri_seq ?_
      refine tri_reg mixed hcx ?_ _ _
      refine fa rfl fDen 2 ?_
      refine ld rfl rfl tyZ rfl ?_
      refine ca rfl (h := zi_Sign (by omega)) (hn := ?_)
      refine cle rfl rfl (decide_eq_false (by omega)) ?_
      refine ⟨by kernel_rfl, ?_⟩
      refine nx (sl 50 rfl (sl 51 rfl (sl 52 rfl (sl 59 rfl sn)))) (el 912 rfl en) ?_
      refine tri_false rfl rfl ?_
      refine tri_skip ?_
      refine pn_blk ?_
      refine nx (sl 50 rfl (sl 51 rfl (sl 52 rfl sn))) (el 912 rfl en) ?_
      refine tri_reg mixed hcx ?_ _ _
      refine ad (((i + 1 : Nat) : Int)) rfl rfl rfl (by omega) ?_
      refine mv rfl ?_
      refine ⟨by kernel_rfl, ?_⟩
      exact pn_back (i + 1) (by first | omega | (dsimp only; omega)) (by omega) (sl 50 rfl (sl 51 rfl (sl 52 rfl sn))) en
    · refine tri_exit ?_
      repeat (first | refine pn_then ?_ | refine pn_oth (by decide) ?_)
      refine pn_ex ?_
      refine nx sn en ?_
      refine tri_seq ?_
      refine tri_reg mixed hcx ?_ _ _
      refine asg rfl ?_
      refine ⟨by kernel_rfl, ?_⟩
      refine nx (sl 2 rfl sn) en ?_
      refine tri_ret ?_
      repeat (first | refine pn_thenr ?_ | refine pn_blkr ?_)
      exact ret1 hcx rfl (rv_tmp rfl) (.refl _) en
  · have htz : ts.length ≠ 0 := by omega
    refine tri_reg mixed hcx ?_ _ _
    refine mv rfl ?_
    refine cgt rfl rfl (decide_eq_false (by omega)) ?_
    refine mv rfl ?_
    refine fa rfl fTrT 2 ?_ (hg := gd1)
    refine ld rfl rfl tyQs rfl ?_ (hg := gd1)
    refine ln slQs rfl ?_ (hg := gd1)
    refine cne rfl rfl (decide_eq_true (by omega)) ?_ (hg := gd1)
    refine mv rfl ?_ (hg := gd1)
    refine fa rfl fTrT 2 ?_ (hg := gd1)
    refine ld rfl rfl tyQs rfl ?_ (hg := gd1)
    refine ln slQs rfl ?_ (hg := gd1)
    refine mv rfl ?_ (hg := gd1)
    refine cne rfl rfl (decide_eq_false (by omega)) ?_ (hg := gd1)
    refine pk rfl rfl ?_ (hg := gd1)
    refine pk rfl rfl ?_
    refine mv rfl ?_
    refine fa rfl fTrR 3 ?_ (hg := gd1)
    refine fa rfl fDen 5 ?_ (hg := gd1)
    refine ld rfl rfl tyZ rfl ?_ (hg := gd1)
    refine ca rfl (h := zi_Sign (by omega)) (hn := ?_) (hg := gd1)
    refine cle rfl rfl (decide_eq_false (by omega)) ?_ (hg := gd1)
    refine pk rfl rfl ?_
    refine mv rfl ?_
    refine fa rfl fTrR 3 ?_ (hg := gd1)
    refine fa rfl fNum 3 ?_ (hg := gd1)
    refine ld rfl rfl tyZ rfl ?_ (hg := gd1)
    refine ca rfl (h := zi_Sign (by omega)) (hn := ?_) (hg := gd1)
    refine clt rfl rfl (decide_eq_false (by omega)) ?_ (hg := gd1)
    refine pk rfl rfl ?_
    refine ⟨by kernel_rfl, ?_⟩
    refine nx (sl 1 rfl (sl 40 rfl sn)) (el 10 rfl en) ?_
    refine tri_false rfl rfl ?_
    refine tri_skip ?_
    refine nx (sl 1 rfl sn) (el 10 rfl en) ?_
    refine tri_seq ?_
    refine tri_seq ?_
    refine tri_reg mixed hcx ?_ _ _
    refine fa rfl fTrG 0 ?_
    refine ld rfl rfl tyG rfl ?_
    refine ca rfl (h := g_Star (k := k) (i := 0) (by omega) (by omega) h.good h.good.1) (hn := ?_)
    refine mv rfl ?_
    refine ex rfl rfl ?_
    refine ex rfl rfl ?_
    refine nw 416 zeQ ?_
    refine st rfl rfl rfl tyQ rfl ?_
    refine asg rfl ?_
    refine ⟨by kernel_rfl, ?_⟩
    refine nx (sl 1 rfl (sl 5 rfl sn)) (el 10 rfl (el 416 rfl en)) ?_
    refine tri_seq ?_
    refine tri_reg mixed hcx ?_ _ _
    refine mv rfl ?_
    refine cne rfl rfl (decide_eq_false (by omega)) ?_
    refine ⟨by kernel_rfl, ?_⟩
    refine nx (sl 1 rfl (sl 48 rfl sn)) (el 10 rfl (el 416 rfl en)) ?_
    refine tri_false rfl rfl ?_
    refine tri_skip ?_
    refine nx (sl 1 rfl sn) (el 10 rfl (el 416 rfl en)) ?_
    refine tri_seq ?_
    refine tri_seq ?_
    refine tri_reg mixed hcx ?_ _ _
    refine fa rfl fTrT 2 ?_
    refine ld rfl rfl tyQs rfl ?_
    refine ln slQs rfl ?_
    refine mv rfl ?_
    refine ⟨by kernel_rfl, ?_⟩
    refine nx (sl 50 rfl (sl 51 rfl (sl 52 rfl sn))) (el 10 rfl (el 416 rfl en)) ?_
    refine tri_block ?_
    refine tri_loop (ι := Nat) (fun i => [(50, T.l (cQi k) ts), (51, T.c (.int .i64 (ts.length : Int))), (52, T.c (.int .i64 (i : Int)))]) (fun i => []) (fun i => ts.length - i) (fun i => (i ≤ ts.length)) 0 (Nat.zero_le _) (sl 50 rfl (sl 51 rfl (sl 52 rfl sn))) en ?_
    rintro i hi
    refine tri_sub (sl 50 rfl (sl 51 rfl (sl 52 rfl sn))) en ?_
    refine tri_seq ?_
    refine tri_reg mixed hcx ?_ _ _
    refine clt rfl rfl rfl ?_
    refine ⟨by kernel_rfl, ?_⟩
    refine nx (sl 50 rfl (sl 51 rfl (sl 52 rfl (sl 53 rfl sn)))) en ?_
    refine tri_seq ?_
    refine tri_if rfl (fun hc => ?_) (fun hc => ?_)
    · have hte : sg (ts.getD i (cQi k).dflt).2 = 1 := sg_pos (h.tp i (by omega))
      refine tri_skip ?_
      refine nx (sl 50 rfl (sl 51 rfl (sl 52 rfl sn))) en ?_
      refine tri_seq ?_
      refine tri_block ?_
      refine tri_seq ?_
      refine tri_reg mixed hcx ?_ _ _
      refine ix rfl rfl slQs ⟨rfl, by omega⟩ ?_
      refine lf rfl tyQ ?_
      refine nw 912 zeQ ?_
      refine sts (zz := [T.Zi (ts.getD i (cQi k).dflt).1 k, T.Zi (ts.getD i (cQi k).dflt).2 k]) rfl rfl rfl tyQ rfl ?_
      refine ⟨by kernel_rfl, ?_⟩
      refine nx (sl 7 rfl (sl 50 rfl (sl 51 rfl (sl 52 rfl sn)))) (el 912 rfl en) ?_
      refine tri_seq ?_
      refine tri_reg mixed hcx ?_ _ _
      refine fa rfl fDen 2 ?_
      refine ld rfl rfl tyZ rfl ?_
      refine ca rfl (h := zi_Sign (by omega)) (hn := ?_)
      refine cle rfl rfl (decide_eq_false (by omega)) ?_
      refine ⟨by kernel_rfl, ?_⟩
      refine nx (sl 50 rfl (sl 51 rfl (sl 52 rfl (sl 59 rfl sn)))) (el 912 rfl en) ?_
      refine tri_false rfl rfl ?_
      refine tri_skip ?_
      refine pn_blk ?_
      refine nx (sl 50 rfl (sl 51 rfl (sl 52 rfl sn))) (el 912 rfl en) ?_
      refine tri_reg mixed hcx ?_ _ _
      refine ad (((i + 1 : Nat) : Int)) rfl rfl rfl (by omega) ?_
      refine mv rfl ?_
      refine ⟨by kernel_rfl, ?_⟩
      exact pn_back (i + 1) (by first | omega | (dsimp only; omega)) (by omega) (sl 50 rfl (sl 51 rfl (sl 52 rfl sn))) en
    · refine tri_exit ?_
      repeat (first | refine pn_then ?_ | refine pn_oth (by decide) ?_)
      refine pn_ex ?_
      refine nx sn en ?_
      refine tri_seq ?_
      refine tri_reg mixed hcx ?_ _ _
      refine asg rfl ?_
      refine ⟨by kernel_rfl, ?_⟩
      refine nx (sl 2 rfl sn) en ?_
      refine tri_ret ?_
      repeat (first | refine pn_thenr ?_ | refine pn_blkr ?_)
      exact ret1 hcx rfl (rv_tmp rfl) (.refl _) en

theorem t_aim {D : List Int} {L : List (List Int)} {ts : List (Int × Int)} {a b : Int} {n k : Nat} (h : TrS D L ts n k) {i : Nat} (hi : i < n) : Fn Tryz.prog 79 [T.Tr D L ts a b k, T.c (.int .i64 (i : Int))] [] [] [] (T.V (aqT ts i) (k + 2)) := by
  refine fn_of Tryz.func79 rfl (by show 2 ≤ 16; decide) fun cx hcx => ?_
  refine tri_sub (sl 0 rfl (sl 1 rfl sn)) en ?_
  have hn12 := h.twelve
  have hkk := h.hk
  have hlL := h.len
  have hn0 := h.pos
  refine tri_seq ?_
  refine tri_reg mixed hcx ?_ _ _
  refine bxs 10 rfl ?_
  refine nw 11 zeQ ?_
  refine ⟨by kernel_rfl, ?_⟩
  refine nx (sl 1 rfl (sl 2 rfl (sl 4 rfl sn))) (el 10 rfl (el 11 rfl en)) ?_
  refine tri_seq ?_
  refine tri_seq ?_
  by_cases htz : ts.length = 0
  · refine tri_reg mixed hcx ?_ _ _
    refine fa rfl fTrT 2 ?_
    refine ld rfl rfl tyQs rfl ?_
    refine ln slQs rfl ?_
    refine ceq rfl rfl (decide_eq_true (by omega)) ?_
    refine ⟨by kernel_rfl, ?_⟩
    refine nx (sl 1 rfl (sl 2 rfl (sl 4 rfl (sl 8 rfl sn)))) (el 10 rfl (el 11 rfl en)) ?_
    refine tri_true rfl rfl ?_
    refine tri_seq ?_
    refine tri_reg mixed hcx ?_ _ _
    refine ca rfl (h := zi_Of (by omega) (by omega)) (hn := ?_)
    refine ca rfl (h := rat_Of (by omega)) (hn := ?_)
    refine st rfl rfl rfl tyQ rfl ?_
    refine ⟨by kernel_rfl, ?_⟩
    refine nx (sl 4 rfl sn) (el 10 rfl (el 11 rfl en)) ?_
    refine tri_ret ?_
    repeat (first | refine pn_thenr ?_ | refine pn_blkr ?_)
    exact ret1 hcx rfl (rv_cell (c' := cx) (n := 0) rfl rfl tyQ rfl) (q_vq (by unfold aqT; rw [if_pos htz]; rfl) (h.a hi)) en
  · have hti : i < ts.length := by rcases h.tl with h1 | h1 <;> omega
    have hte := h.tp i hti
    refine tri_reg mixed hcx ?_ _ _
    refine fa rfl fTrT 2 ?_
    refine ld rfl rfl tyQs rfl ?_
    refine ln slQs rfl ?_
    refine ceq rfl rfl (decide_eq_false (by omega)) ?_
    refine ⟨by kernel_rfl, ?_⟩
    refine nx (sl 1 rfl (sl 2 rfl (sl 4 rfl (sl 8 rfl sn)))) (el 10 rfl (el 11 rfl en)) ?_
    refine tri_false rfl rfl ?_
    refine tri_skip ?_
    refine nx (sl 1 rfl (sl 2 rfl (sl 4 rfl sn))) (el 10 rfl (el 11 rfl en)) ?_
    refine tri_seq ?_
    refine tri_reg mixed hcx ?_ _ _
    refine fa rfl fTrT 2 ?_
    refine ld rfl rfl tyQs rfl ?_
    refine mv rfl ?_
    refine ix rfl rfl slQs ⟨rfl, by omega⟩ ?_
    refine lf rfl tyQ ?_
    refine st rfl rfl rfl tyQ rfl ?_
    refine ⟨by kernel_rfl, ?_⟩
    refine nx (sl 4 rfl sn) (el 10 rfl (el 11 rfl en)) ?_
    refine tri_ret ?_
    repeat (first | refine pn_thenr ?_ | refine pn_blkr ?_)
    exact ret1 hcx rfl (rv_cell (c' := cx) (n := 0) rfl rfl tyQ rfl) (qi_v hte (by unfold aqT; rw [if_neg htz]; rfl) (by omega)) en

theorem t_centre {D : List Int} {L : List (List Int)} {ts : List (Int × Int)} {a b : Int} {n k : Nat} (h : TrS D L ts n k) {s : List Int} (hs : s.length + 1 ≤ n) : Fn Tryz.prog 59 [T.Tr D L ts a b k, T.l (cZi k) s] [] [] [] (T.Q (ctT D L ts s (n - 1) (n - 1 - s.length) s.length) 600000000) := by
  refine fn_of Tryz.func59 rfl (by show 2 ≤ 76; decide) fun cx hcx => ?_
  refine tri_sub (sl 0 rfl (sl 1 rfl sn)) en ?_
  have hn12 := h.twelve
  have hkk := h.hk
  have hlL := h.len
  have hn0 := h.pos
  refine tri_lz 1 rfl fun hz => ?_
  have hQ := fun e (he : n - 1 - s.length + e ≤ n - 1) => h.ct' hz (m := n - 1) (i := n - 1 - s.length) (c := e) (by omega) he
  refine tri_seq ?_
  refine tri_reg mixed hcx ?_ _ _
  refine bxs 10 rfl ?_
  refine nw 11 zeQ ?_
  refine ⟨by kernel_rfl, ?_⟩
  refine nx (sl 1 rfl (sl 2 rfl (sl 4 rfl sn))) (el 10 rfl (el 11 rfl en)) ?_
  refine tri_seq ?_
  refine tri_reg mixed hcx ?_ _ _
  refine fa rfl fTrG 0 ?_
  refine fa rfl fL 1 ?_
  refine ld rfl rfl tyZss rfl ?_
  refine ln slZss rfl ?_
  refine asg rfl ?_
  refine ⟨by kernel_rfl, ?_⟩
  refine nx (sl 1 rfl (sl 2 rfl (sl 4 rfl (sl 5 rfl sn)))) (el 10 rfl (el 11 rfl en)) ?_
  refine tri_seq ?_
  refine tri_reg mixed hcx ?_ _ _
  refine mv rfl ?_
  refine sb (((n - 1 : Nat) : Int)) rfl rfl rfl (by omega) ?_
  refine mv rfl ?_
  refine ln slZs rfl ?_
  refine sb (((n - 1 - s.length : Nat) : Int)) rfl rfl rfl (by omega) ?_
  refine asg rfl ?_
  refine ⟨by kernel_rfl, ?_⟩
  refine nx (sl 1 rfl (sl 2 rfl (sl 4 rfl (sl 5 rfl (sl 6 rfl sn))))) (el 10 rfl (el 11 rfl en)) ?_
  refine tri_seq ?_
  refine tri_reg mixed hcx ?_ _ _
  refine ld rfl rfl tyTr rfl ?_
  refine mv rfl ?_
  refine cb rfl (h := t_aim h (by omega)) (hn := ?_)
  refine ca rfl (h := zi_Of (by omega) (by omega)) (hn := ?_)
  refine ca rfl (h := rat_Of (by omega)) (hn := ?_)
  refine cb rfl (h := rv_Add (by omega) (by omega)) (hn := ?_)
  refine mv rfl ?_
  refine ex rfl rfl ?_
  refine ex rfl rfl ?_
  refine nw 319 zeQ ?_
  refine st rfl rfl rfl tyQ rfl ?_
  refine asg rfl ?_
  refine ⟨by kernel_rfl, ?_⟩
  refine nx (sl 1 rfl (sl 2 rfl (sl 4 rfl (sl 5 rfl (sl 6 rfl (sl 7 rfl sn)))))) (el 10 rfl (el 11 rfl (el 319 rfl en))) ?_
  refine tri_seq ?_
  refine tri_seq ?_
  refine tri_reg mixed hcx ?_ _ _
  refine mv rfl ?_
  refine ln slZs rfl ?_
  refine mv rfl ?_
  refine ⟨by kernel_rfl, ?_⟩
  refine nx (sl 1 rfl (sl 2 rfl (sl 4 rfl (sl 5 rfl (sl 6 rfl (sl 7 rfl (sl 34 rfl (sl 35 rfl sn)))))))) (el 10 rfl (el 11 rfl (el 319 rfl en))) ?_
  refine tri_block ?_
  refine tri_loop (ι := Nat) (fun e => [(1, T.l (cZi k) s), (2, T.p 10 0), (4, T.p 11 0), (5, T.c (.int .i64 (L.length : Int))), (6, T.c (.int .i64 ((n - 1 - s.length : Nat) : Int))), (7, T.p 319 0), (34, T.c (.int .i64 (s.length : Int))), (35, T.c (.int .i64 (e : Int)))]) (fun e => [(10, some (Ent.box 35 [T.l (cZi k) D, T.l (cL (cZi k)) L, T.l (cQi k) ts, T.Zi a k, T.Zi b k])), (11, some (Ent.box 26 [T.c (.bool false), T.c (.slice none 0 0), T.c (.bool false), T.c (.slice none 0 0)])), (319, some (Ent.box 26 [T.Q (ctT D L ts s (n - 1) (n - 1 - s.length) e) 600000000]))]) (fun e => s.length - e) (fun e => (e ≤ s.length)) 0 (Nat.zero_le _) (sl 1 rfl (sl 2 rfl (sl 4 rfl (sl 5 rfl (sl 6 rfl (sl 7 rfl (sl 34 rfl (sl 35 rfl sn)))))))) (el 10 rfl (el 11 rfl (ew 319 rfl (box_q (q_qb (by show aqT ts _ + (0 : Rat) = aqT ts _; grind) (hQ 0 (by omega)))) en))) ?_
  rintro e he
  refine tri_sub (sl 1 rfl (sl 2 rfl (sl 4 rfl (sl 5 rfl (sl 6 rfl (sl 7 rfl (sl 34 rfl (sl 35 rfl sn)))))))) (el 10 rfl (el 11 rfl (el 319 rfl en))) ?_
  refine tri_seq ?_
  refine tri_reg mixed hcx ?_ _ _
  refine clt rfl rfl rfl ?_
  refine ⟨by kernel_rfl, ?_⟩
  refine nx (sl 1 rfl (sl 2 rfl (sl 4 rfl (sl 5 rfl (sl 6 rfl (sl 7 rfl (sl 34 rfl (sl 35 rfl (sl 36 rfl sn))))))))) (el 10 rfl (el 11 rfl (el 319 rfl en))) ?_
  refine tri_seq ?_
  refine tri_if rfl (fun hc => ?_) (fun hc => ?_)
  · refine tri_skip ?_
    refine nx (sl 1 rfl (sl 2 rfl (sl 4 rfl (sl 5 rfl (sl 6 rfl (sl 7 rfl (sl 34 rfl (sl 35 rfl sn)))))))) (el 10 rfl (el 11 rfl (el 319 rfl en))) ?_
    refine tri_seq ?_
    refine tri_block ?_
    refine tri_seq ?_
    refine tri_reg mixed hcx ?_ _ _
    refine mv rfl ?_
    refine asg rfl ?_
    refine ⟨by kernel_rfl, ?_⟩
    refine nx (sl 1 rfl (sl 2 rfl (sl 4 rfl (sl 5 rfl (sl 6 rfl (sl 7 rfl (sl 9 rfl (sl 34 rfl (sl 35 rfl sn))))))))) (el 10 rfl (el 11 rfl (el 319 rfl en))) ?_
    refine tri_seq ?_
    refine tri_reg mixed hcx ?_ _ _
    refine mv rfl ?_
    refine sb (((n - 1 : Nat) : Int)) rfl rfl rfl (by omega) ?_
    refine mv rfl ?_
    refine sb (((n - 1 - e : Nat) : Int)) rfl rfl rfl (by omega) ?_
    refine asg rfl ?_
    refine ⟨by kernel_rfl, ?_⟩
    refine nx (sl 1 rfl (sl 2 rfl (sl 4 rfl (sl 5 rfl (sl 6 rfl (sl 7 rfl (sl 9 rfl (sl 10 rfl (sl 34 rfl (sl 35 rfl sn)))))))))) (el 10 rfl (el 11 rfl (el 319 rfl en))) ?_
    refine tri_seq ?_
    refine tri_reg mixed hcx ?_ _ _
    refine mv rfl ?_
    refine mv rfl ?_
    refine ix rfl rfl slZs ⟨rfl, by omega⟩ ?_
    refine lf rfl tyZ ?_
    refine ca rfl (h := rat_Of (by omega)) (hn := ?_)
    refine ld rfl rfl tyTr rfl ?_
    refine mv rfl ?_
    refine cb rfl (h := t_aim h (by omega)) (hn := ?_)
    refine cb rfl (h := rv_Sub (by omega) (by omega)) (hn := ?_)
    refine mv rfl ?_
    refine ex rfl rfl ?_
    refine ex rfl rfl ?_
    refine nw 822 zeQ ?_
    refine st rfl rfl rfl tyQ rfl ?_
    refine asg rfl ?_
    refine ⟨by kernel_rfl, ?_⟩
    refine nx (sl 1 rfl (sl 2 rfl (sl 4 rfl (sl 5 rfl (sl 6 rfl (sl 7 rfl (sl 10 rfl (sl 11 rfl (sl 34 rfl (sl 35 rfl sn)))))))))) (el 10 rfl (el 11 rfl (el 319 rfl (el 822 rfl en)))) ?_
    refine tri_seq ?_
    refine tri_reg mixed hcx ?_ _ _
    refine fa rfl fTrG 0 ?_
    refine ld rfl rfl tyG rfl ?_
    refine mv rfl ?_
    refine mv rfl ?_
    refine ca rfl (h := g_Mu (k := k) (by omega) (by omega) h.good (i := n - 1 - e) (by omega) (by omega)) (hn := ?_)
    refine mv rfl ?_
    refine ex rfl rfl ?_
    refine ex rfl rfl ?_
    refine nw 918 zeQ ?_
    refine st rfl rfl rfl tyQ rfl ?_
    refine asg rfl ?_
    refine ⟨by kernel_rfl, ?_⟩
    refine nx (sl 1 rfl (sl 2 rfl (sl 4 rfl (sl 5 rfl (sl 6 rfl (sl 7 rfl (sl 11 rfl (sl 13 rfl (sl 34 rfl (sl 35 rfl sn)))))))))) (el 10 rfl (el 11 rfl (el 319 rfl (el 822 rfl (el 918 rfl en))))) ?_
    refine tri_seq ?_
    refine tri_reg mixed hcx ?_ _ _
    refine ld rfl rfl tyQ rfl ?_
    refine ld rfl rfl tyQ rfl ?_
    refine cb rfl (h := rv_Mul (by omega) (by omega)) (hn := ?_)
    refine mv rfl ?_
    refine ex rfl rfl ?_
    refine ex rfl rfl ?_
    refine st rfl rfl rfl tyQ rfl ?_
    refine ⟨by kernel_rfl, ?_⟩
    refine nx (sl 1 rfl (sl 2 rfl (sl 4 rfl (sl 5 rfl (sl 6 rfl (sl 7 rfl (sl 11 rfl (sl 34 rfl (sl 35 rfl sn))))))))) (el 10 rfl (el 11 rfl (el 319 rfl (el 822 rfl (el 918 rfl en))))) ?_
    refine tri_reg mixed hcx ?_ _ _
    refine ld rfl rfl tyQ rfl ?_
    refine ld rfl rfl tyQ rfl ?_
    refine cb rfl (h := rv_Sub (by omega) (by omega)) (hn := ?_)
    refine mv rfl ?_
    refine ex rfl rfl ?_
    refine ex rfl rfl ?_
    refine st rfl rfl rfl tyQ rfl ?_
    refine ⟨by kernel_rfl, ?_⟩
    refine pn_blk ?_
    refine nx (sl 1 rfl (sl 2 rfl (sl 4 rfl (sl 5 rfl (sl 6 rfl (sl 7 rfl (sl 34 rfl (sl 35 rfl sn)))))))) (el 10 rfl (el 11 rfl (el 319 rfl (el 822 rfl (el 918 rfl en))))) ?_
    refine tri_reg mixed hcx ?_ _ _
    refine ad (((e + 1 : Nat) : Int)) rfl rfl rfl (by omega) ?_
    refine mv rfl ?_
    refine ⟨by kernel_rfl, ?_⟩
    exact pn_back (e + 1) (by first | omega | (dsimp only; omega)) (by omega) (sl 1 rfl (sl 2 rfl (sl 4 rfl (sl 5 rfl (sl 6 rfl (sl 7 rfl (sl 34 rfl (sl 35 rfl sn)))))))) (el 10 rfl (el 11 rfl (ew 319 rfl (box_q (q_qb rfl (hQ (e + 1) (by omega)))) en)))
  · refine tri_exit ?_
    repeat (first | refine pn_then ?_ | refine pn_oth (by decide) ?_)
    refine pn_ex ?_
    have hes : e = s.length := by omega
    refine nx (sl 4 rfl (sl 7 rfl sn)) (el 10 rfl (el 11 rfl (el 319 rfl en))) ?_
    refine tri_seq ?_
    refine tri_reg mixed hcx ?_ _ _
    refine ld rfl rfl tyQ rfl ?_
    refine st rfl rfl rfl tyQ rfl ?_
    refine ⟨by kernel_rfl, ?_⟩
    refine nx (sl 4 rfl sn) (el 10 rfl (el 11 rfl (el 319 rfl en))) ?_
    refine tri_ret ?_
    repeat (first | refine pn_thenr ?_ | refine pn_blkr ?_)
    exact ret1 hcx rfl (rv_cell (c' := cx) (n := 0) rfl rfl tyQ rfl) (q_eq (by rw [hes]) (Nat.le_refl _)) en

theorem t_grown {D : List Int} {L : List (List Int)} {ts : List (Int × Int)} {a b : Int} {n k : Nat} (h : TrS D L ts n k) {p c : Rat} {x : Int} {kp kc kx d : Nat} (hd : d < n) (hkp : kp ≤ 15100000000) (hkc : kc ≤ 600000000) (hkx : kx ≤ 16777216) : Fn Tryz.prog 58 [T.Tr D L ts a b k, T.V p kp, T.V c kc, T.c (.int .i64 (d : Int)), T.Zi x kx] [] [] [] (T.Q (p + ((x : Rat) - c) * ((x : Rat) - c) * stq D (n - 1 - d)) (kp + (kx + 2 + kc + 1 + (kx + 2 + kc + 1) + (k + k)) + 1)) := by
  refine fn_of Tryz.func58 rfl (by show 5 ≤ 56; decide) fun cx hcx => ?_
  refine tri_sub (sl 0 rfl (sl 1 rfl (sl 2 rfl (sl 3 rfl (sl 4 rfl sn))))) en ?_
  have hn12 := h.twelve
  have hkk := h.hk
  have hlL := h.len
  have hn0 := h.pos
  refine tri_seq ?_
  refine tri_reg mixed hcx ?_ _ _
  refine bxs 10 rfl ?_
  refine bx 11 rfl ?_
  refine bx 12 rfl ?_
  refine bx 13 rfl ?_
  refine nw 14 zeQ ?_
  refine ⟨by kernel_rfl, ?_⟩
  refine nx (sl 3 rfl (sl 5 rfl (sl 6 rfl (sl 7 rfl (sl 9 rfl (sl 10 rfl sn)))))) (el 10 rfl (el 11 rfl (el 12 rfl (el 13 rfl (el 14 rfl en))))) ?_
  refine tri_seq ?_
  refine tri_reg mixed hcx ?_ _ _
  refine ld rfl rfl tyZ rfl ?_
  refine ca rfl (h := rat_Of (by omega)) (hn := ?_)
  refine ld rfl rfl tyQ rfl ?_
  refine cb rfl (h := rv_Sub (by omega) (by omega)) (hn := ?_)
  refine mv rfl ?_
  refine ex rfl rfl ?_
  refine ex rfl rfl ?_
  refine nw 117 zeQ ?_
  refine st rfl rfl rfl tyQ rfl ?_
  refine asg rfl ?_
  refine ⟨by kernel_rfl, ?_⟩
  refine nx (sl 3 rfl (sl 5 rfl (sl 6 rfl (sl 10 rfl (sl 11 rfl sn))))) (el 10 rfl (el 11 rfl (el 12 rfl (el 13 rfl (el 14 rfl (el 117 rfl en)))))) ?_
  refine tri_seq ?_
  refine tri_reg mixed hcx ?_ _ _
  refine ld rfl rfl tyQ rfl ?_
  refine ld rfl rfl tyQ rfl ?_
  refine cb rfl (h := rv_Mul (by omega) (by omega)) (hn := ?_)
  refine mv rfl ?_
  refine ex rfl rfl ?_
  refine ex rfl rfl ?_
  refine st rfl rfl rfl tyQ rfl ?_
  refine ⟨by kernel_rfl, ?_⟩
  refine nx (sl 3 rfl (sl 5 rfl (sl 6 rfl (sl 10 rfl (sl 11 rfl sn))))) (el 10 rfl (el 11 rfl (el 12 rfl (el 13 rfl (el 14 rfl (el 117 rfl en)))))) ?_
  refine tri_seq ?_
  refine tri_reg mixed hcx ?_ _ _
  refine fa rfl fTrG 0 ?_
  refine ld rfl rfl tyG rfl ?_
  refine fa rfl fTrG 0 ?_
  refine fa rfl fL 1 ?_
  refine ld rfl rfl tyZss rfl ?_
  refine ln slZss rfl ?_
  refine sb (((n - 1 : Nat) : Int)) rfl rfl rfl (by omega) ?_
  refine mv rfl ?_
  refine sb (((n - 1 - d : Nat) : Int)) rfl rfl rfl (by omega) ?_
  refine ca rfl (h := g_Star (k := k) (by omega) (by omega) h.good (i := n - 1 - d) (by omega)) (hn := ?_)
  refine mv rfl ?_
  refine ex rfl rfl ?_
  refine ex rfl rfl ?_
  refine nw 323 zeQ ?_
  refine st rfl rfl rfl tyQ rfl ?_
  refine asg rfl ?_
  refine ⟨by kernel_rfl, ?_⟩
  refine nx (sl 6 rfl (sl 10 rfl (sl 11 rfl (sl 13 rfl sn)))) (el 10 rfl (el 11 rfl (el 12 rfl (el 13 rfl (el 14 rfl (el 117 rfl (el 323 rfl en))))))) ?_
  refine tri_seq ?_
  refine tri_reg mixed hcx ?_ _ _
  refine ld rfl rfl tyQ rfl ?_
  refine ld rfl rfl tyQ rfl ?_
  refine cb rfl (h := rv_Mul (by omega) (by omega)) (hn := ?_)
  refine mv rfl ?_
  refine ex rfl rfl ?_
  refine ex rfl rfl ?_
  refine st rfl rfl rfl tyQ rfl ?_
  refine ⟨by kernel_rfl, ?_⟩
  refine nx (sl 6 rfl (sl 10 rfl (sl 11 rfl sn))) (el 10 rfl (el 11 rfl (el 12 rfl (el 13 rfl (el 14 rfl (el 117 rfl (el 323 rfl en))))))) ?_
  refine tri_seq ?_
  refine tri_reg mixed hcx ?_ _ _
  refine ld rfl rfl tyQ rfl ?_
  refine ld rfl rfl tyQ rfl ?_
  refine cb rfl (h := rv_Add (by omega) (by omega)) (hn := ?_)
  refine mv rfl ?_
  refine ex rfl rfl ?_
  refine ex rfl rfl ?_
  refine nw 516 zeQ ?_
  refine st rfl rfl rfl tyQ rfl ?_
  refine asg rfl ?_
  refine ⟨by kernel_rfl, ?_⟩
  refine nx (sl 10 rfl (sl 15 rfl sn)) (el 10 rfl (el 11 rfl (el 12 rfl (el 13 rfl (el 14 rfl (el 117 rfl (el 323 rfl (el 516 rfl en)))))))) ?_
  refine tri_seq ?_
  refine tri_reg mixed hcx ?_ _ _
  refine ld rfl rfl tyQ rfl ?_
  refine st rfl rfl rfl tyQ rfl ?_
  refine ⟨by kernel_rfl, ?_⟩
  refine nx (sl 10 rfl sn) (el 10 rfl (el 11 rfl (el 12 rfl (el 13 rfl (el 14 rfl (el 117 rfl (el 323 rfl (el 516 rfl en)))))))) ?_
  refine tri_ret ?_
  repeat (first | refine pn_thenr ?_ | refine pn_blkr ?_)
  exact ret1 hcx rfl (rv_cell (c' := cx) (n := 0) rfl rfl tyQ rfl) (.refl _) en

theorem t_part {D : List Int} {L : List (List Int)} {ts : List (Int × Int)} {a b : Int} {n k : Nat} (h : TrS D L ts n k) {s : List Int} (hs : s.length ≤ n) : Fn Tryz.prog 39 [T.Tr D L ts a b k, T.l (cZi k) s] [] [] [] (T.Q (ptT D L ts s (n - 1) s.length) 15100000000) := by
  refine fn_of Tryz.func39 rfl (by show 2 ≤ 29; decide) fun cx hcx => ?_
  refine tri_sub (sl 0 rfl (sl 1 rfl sn)) en ?_
  have hn12 := h.twelve
  have hkk := h.hk
  have hlL := h.len
  have hn0 := h.pos
  refine tri_lz 1 rfl fun hz => ?_
  have hQ := fun e (he : e ≤ n) => h.pt' hz (m := n - 1) (c := e) (by omega) he
  refine tri_seq ?_
  refine tri_reg mixed hcx ?_ _ _
  refine bxs 10 rfl ?_
  refine nw 11 zeQ ?_
  refine ⟨by kernel_rfl, ?_⟩
  refine nx (sl 1 rfl (sl 2 rfl (sl 4 rfl sn))) (el 10 rfl (el 11 rfl en)) ?_
  refine tri_seq ?_
  refine tri_reg mixed hcx ?_ _ _
  refine ca rfl (h := zi_Of (by omega) (by omega)) (hn := ?_)
  refine ca rfl (h := rat_Of (by omega)) (hn := ?_)
  refine nw 112 zeQ ?_
  refine st rfl rfl rfl tyQ rfl ?_
  refine ⟨by kernel_rfl, ?_⟩
  refine nx (sl 1 rfl (sl 2 rfl (sl 4 rfl (sl 5 rfl sn)))) (el 10 rfl (el 11 rfl (el 112 rfl en))) ?_
  refine tri_seq ?_
  refine tri_seq ?_
  refine tri_reg mixed hcx ?_ _ _
  refine mv rfl ?_
  refine ln slZs rfl ?_
  refine mv rfl ?_
  refine ⟨by kernel_rfl, ?_⟩
  refine nx (sl 1 rfl (sl 2 rfl (sl 4 rfl (sl 5 rfl (sl 10 rfl (sl 11 rfl sn)))))) (el 10 rfl (el 11 rfl (el 112 rfl en))) ?_
  refine tri_block ?_
  refine tri_loop (ι := Nat) (fun e => [(1, T.l (cZi k) s), (2, T.p 10 0), (4, T.p 11 0), (5, T.p 112 0), (10, T.c (.int .i64 (s.length : Int))), (11, T.c (.int .i64 (e : Int)))]) (fun e => [(10, some (Ent.box 35 [T.l (cZi k) D, T.l (cL (cZi k)) L, T.l (cQi k) ts, T.Zi a k, T.Zi b k])), (11, some (Ent.box 26 [T.c (.bool false), T.c (.slice none 0 0), T.c (.bool false), T.c (.slice none 0 0)])), (112, some (Ent.box 26 [T.Q (ptT D L ts s (n - 1) e) 15100000000]))]) (fun e => s.length - e) (fun e => (e ≤ s.length)) 0 (Nat.zero_le _) (sl 1 rfl (sl 2 rfl (sl 4 rfl (sl 5 rfl (sl 10 rfl (sl 11 rfl sn)))))) (el 10 rfl (el 11 rfl (ew 112 rfl (box_q (q_qb (by rfl) (hQ 0 (by omega)))) en))) ?_
  rintro e he
  refine tri_sub (sl 1 rfl (sl 2 rfl (sl 4 rfl (sl 5 rfl (sl 10 rfl (sl 11 rfl sn)))))) (el 10 rfl (el 11 rfl (el 112 rfl en))) ?_
  refine tri_seq ?_
  refine tri_reg mixed hcx ?_ _ _
  refine clt rfl rfl rfl ?_
  refine ⟨by kernel_rfl, ?_⟩
  refine nx (sl 1 rfl (sl 2 rfl (sl 4 rfl (sl 5 rfl (sl 10 rfl (sl 11 rfl (sl 12 rfl sn))))))) (el 10 rfl (el 11 rfl (el 112 rfl en))) ?_
  refine tri_seq ?_
  refine tri_if rfl (fun hc => ?_) (fun hc => ?_)
  · have htk : (s.take e).length = e := by rw [List.length_take]; omega
    have hCt := fn_out (t_centre (a := a) (b := b) (s := s.take e) h (by omega)) (q_eq (q' := ctT D L ts s (n - 1) (n - 1 - e) e) (by rw [htk]; exact ctT_ext fun j hj => by rw [take_getD hj]) (Nat.le_refl _))
    refine tri_skip ?_
    refine nx (sl 1 rfl (sl 2 rfl (sl 4 rfl (sl 5 rfl (sl 10 rfl (sl 11 rfl sn)))))) (el 10 rfl (el 11 rfl (el 112 rfl en))) ?_
    refine tri_seq ?_
    refine tri_block ?_
    refine tri_seq ?_
    refine tri_reg mixed hcx ?_ _ _
    refine mv rfl ?_
    refine asg rfl ?_
    refine ⟨by kernel_rfl, ?_⟩
    refine nx (sl 1 rfl (sl 2 rfl (sl 4 rfl (sl 5 rfl (sl 6 rfl (sl 10 rfl (sl 11 rfl sn))))))) (el 10 rfl (el 11 rfl (el 112 rfl en))) ?_
    refine tri_reg mixed hcx ?_ _ _
    refine ld rfl rfl tyTr rfl ?_
    refine ld rfl rfl tyQ rfl ?_
    refine ld rfl rfl tyTr rfl ?_
    refine mv rfl ?_
    refine mv rfl ?_
    refine sh rfl slZs rfl ⟨rfl, by omega⟩ ?_
    refine ca rfl (h := hCt) (hn := ?_)
    refine mv rfl ?_
    refine mv rfl ?_
    refine mv rfl ?_
    refine ix rfl rfl slZs ⟨rfl, by omega⟩ ?_
    refine lf rfl tyZ ?_
    refine cb rfl (h := t_grown h (by omega) (by omega) (by omega) (by omega)) (hn := ?_)
    refine st rfl rfl rfl tyQ rfl ?_
    refine ⟨by kernel_rfl, ?_⟩
    refine pn_blk ?_
    refine nx (sl 1 rfl (sl 2 rfl (sl 4 rfl (sl 5 rfl (sl 10 rfl (sl 11 rfl sn)))))) (el 10 rfl (el 11 rfl (el 112 rfl en))) ?_
    refine tri_reg mixed hcx ?_ _ _
    refine ad (((e + 1 : Nat) : Int)) rfl rfl rfl (by omega) ?_
    refine mv rfl ?_
    refine ⟨by kernel_rfl, ?_⟩
    exact pn_back (e + 1) (by first | omega | (dsimp only; omega)) (by omega) (sl 1 rfl (sl 2 rfl (sl 4 rfl (sl 5 rfl (sl 10 rfl (sl 11 rfl sn)))))) (el 10 rfl (el 11 rfl (ew 112 rfl (box_q (q_qb rfl (hQ (e + 1) (by omega)))) en)))
  · refine tri_exit ?_
    repeat (first | refine pn_then ?_ | refine pn_oth (by decide) ?_)
    refine pn_ex ?_
    have hes : e = s.length := by omega
    refine nx (sl 4 rfl (sl 5 rfl sn)) (el 10 rfl (el 11 rfl (el 112 rfl en))) ?_
    refine tri_seq ?_
    refine tri_reg mixed hcx ?_ _ _
    refine ld rfl rfl tyQ rfl ?_
    refine st rfl rfl rfl tyQ rfl ?_
    refine ⟨by kernel_rfl, ?_⟩
    refine nx (sl 4 rfl sn) (el 10 rfl (el 11 rfl (el 112 rfl en))) ?_
    refine tri_ret ?_
    repeat (first | refine pn_thenr ?_ | refine pn_blkr ?_)
    exact ret1 hcx rfl (rv_cell (c' := cx) (n := 0) rfl rfl tyQ rfl) (q_eq (by rw [hes]) (Nat.le_refl _)) en

theorem t_fits {D : List Int} {L : List (List Int)} {ts : List (Int × Int)} {a b : Int} {n k : Nat} (h : TrS D L ts n k) {s : List Int} (hb : 0 < b) (ha : 0 ≤ a) {m : Nat} (hs : s.length ≤ m) (hsl : s.length ≤ 1048576) : Fn Tryz.prog 38 [T.Tr D L ts a b k, T.l (cZi k) s, T.c (.int .i64 (m : Int))] [] [] [] (T.c (.int .i64 0)) := by
  refine fn_of Tryz.func38 rfl (by show 3 ≤ 17; decide) fun cx hcx => ?_
  refine tri_sub (sl 0 rfl (sl 1 rfl (sl 2 rfl sn))) en ?_
  refine tri_seq ?_
  refine tri_reg mixed hcx ?_ _ _
  refine bxs 10 rfl ?_
  refine asg rfl ?_
  refine ⟨by kernel_rfl, ?_⟩
  refine nx (sl 1 rfl (sl 2 rfl (sl 3 rfl sn))) (el 10 rfl en) ?_
  refine tri_seq ?_
  refine tri_seq ?_
  refine tri_reg mixed hcx ?_ _ _
  refine ld rfl rfl tyTr rfl ?_
  refine ca rfl (h := t_Valid h hb ha) (hn := ?_)
  refine asg rfl ?_
  refine ⟨by kernel_rfl, ?_⟩
  refine nx (sl 1 rfl (sl 2 rfl (sl 7 rfl sn))) (el 10 rfl en) ?_
  refine tri_seq ?_
  refine tri_reg mixed hcx ?_ _ _
  refine mv rfl ?_
  refine cne rfl rfl (decide_eq_false (by omega)) ?_
  refine ⟨by kernel_rfl, ?_⟩
  refine nx (sl 1 rfl (sl 2 rfl (sl 7 rfl (sl 11 rfl sn)))) (el 10 rfl en) ?_
  refine tri_false rfl rfl ?_
  refine tri_skip ?_
  refine nx (sl 1 rfl (sl 2 rfl sn)) (el 10 rfl en) ?_
  refine tri_seq ?_
  refine tri_seq ?_
  refine tri_reg mixed hcx ?_ _ _
  refine mv rfl ?_
  refine ln slZs rfl ?_
  refine mv rfl ?_
  refine cgt rfl rfl (decide_eq_false (by omega)) ?_
  refine ⟨by kernel_rfl, ?_⟩
  refine nx (sl 16 rfl sn) (el 10 rfl en) ?_
  refine tri_false rfl rfl ?_
  refine tri_skip ?_
  refine nx sn (el 10 rfl en) ?_
  refine tri_seq ?_
  refine tri_reg mixed hcx ?_ _ _
  refine asg rfl ?_
  refine ⟨by kernel_rfl, ?_⟩
  refine nx (sl 6 rfl sn) (el 10 rfl en) ?_
  refine tri_ret ?_
  repeat (first | refine pn_thenr ?_ | refine pn_blkr ?_)
  exact ret1 hcx rfl (rv_tmp rfl) (.refl _) en

theorem t_Part {D : List Int} {L : List (List Int)} {ts : List (Int × Int)} {a b : Int} {n k : Nat} (h : TrS D L ts n k) {s : List Int} (hb : 0 < b) (ha : 0 ≤ a) (hs : s.length ≤ n) : Fn Tryz.prog 21 [T.Tr D L ts a b k, T.l (cZi k) s] [] [] [] (T.tup [T.Q (ptT D L ts s (n - 1) s.length) 15100000000, T.c (.int .i64 0)]) := by
  refine fn_of Tryz.func21 rfl (by show 2 ≤ 21; decide) fun cx hcx => ?_
  refine tri_sub (sl 0 rfl (sl 1 rfl sn)) en ?_
  have hn12 := h.twelve
  have hkk := h.hk
  have hlL := h.len
  have hn0 := h.pos
  refine tri_seq ?_
  refine tri_reg mixed hcx ?_ _ _
  refine bxs 10 rfl ?_
  refine nw 11 zeQ ?_
  refine asg rfl ?_
  refine ⟨by kernel_rfl, ?_⟩
  refine nx (sl 1 rfl (sl 2 rfl (sl 4 rfl sn))) (el 10 rfl (el 11 rfl en)) ?_
  refine tri_seq ?_
  refine tri_seq ?_
  refine tri_reg mixed hcx ?_ _ _
  refine ld rfl rfl tyTr rfl ?_
  refine mv rfl ?_
  refine fa rfl fTrG 0 ?_
  refine fa rfl fL 1 ?_
  refine ld rfl rfl tyZss rfl ?_
  refine ln slZss rfl ?_
  refine ca rfl (h := t_fits h hb ha (m := L.length) (by omega) (by omega)) (hn := ?_)
  refine asg rfl ?_
  refine ⟨by kernel_rfl, ?_⟩
  refine nx (sl 1 rfl (sl 2 rfl (sl 4 rfl (sl 6 rfl sn)))) (el 10 rfl (el 11 rfl en)) ?_
  refine tri_seq ?_
  refine tri_reg mixed hcx ?_ _ _
  refine mv rfl ?_
  refine cne rfl rfl (decide_eq_false (by omega)) ?_
  refine ⟨by kernel_rfl, ?_⟩
  refine nx (sl 1 rfl (sl 2 rfl (sl 4 rfl (sl 6 rfl (sl 15 rfl sn))))) (el 10 rfl (el 11 rfl en)) ?_
  refine tri_false rfl rfl ?_
  refine tri_skip ?_
  refine nx (sl 1 rfl (sl 2 rfl (sl 4 rfl sn))) (el 10 rfl (el 11 rfl en)) ?_
  refine tri_seq ?_
  refine tri_reg mixed hcx ?_ _ _
  refine ld rfl rfl tyTr rfl ?_
  refine mv rfl ?_
  refine ca rfl (h := t_part h (by omega)) (hn := ?_)
  refine st rfl rfl rfl tyQ rfl ?_
  refine asg rfl ?_
  refine ⟨by kernel_rfl, ?_⟩
  refine nx (sl 4 rfl (sl 5 rfl sn)) (el 10 rfl (el 11 rfl en)) ?_
  refine tri_ret ?_
  repeat (first | refine pn_thenr ?_ | refine pn_blkr ?_)
  exact ret2 hcx rfl (rv_cell (c' := cx) (n := 0) rfl rfl tyQ rfl) (rv_tmp rfl) (.refl _) en

-- left out
end Go.Proofs.YtekghdfbhbhigaaGreatDoor.V
/- A logic of calls: a range over a function. -/
set_option linter.unusedVariables false
set_option linter.unusedSimpArgs false
namespace Go.Proofs.YtekghdfbhbhigaaGreatDoor.V
open Go.RowKit

theorem lkE_cons (e : Nat) (X : Option Ent) (E : List (Nat × Option Ent)) (f : Nat) : lkE ((e, X) :: E) f = if e = f then X else lkE E f := by
  unfold lkE
  rw [lk_cons]
  by_cases h : e = f
  · rw [if_pos h, if_pos h]; rfl
  · rw [if_neg h, if_neg h]
/-- Memory of another's, without names. -/
structure Ent0 where
  hold : World → World → (Nat → Prop) → Prop
  mono : ∀ {u u' w F}, Sub u u' → hold u w F → hold u' w F
  loc : ∀ {u w w' F}, (∀ k, F k → w'.heap[k]? = w.heap[k]?) → hold u w F → hold u w' F
/-- One block that holds no cells. -/
def Ent.ob (k : Nat) (o : Obj) : Ent := ⟨[], fun _ _ w _ F => (∀ q, F q ↔ q = k) ∧ w.heap[k]? = some o, fun _ h => h, fun _ h => h, fun hl h => ⟨h.1, (hl k ((h.1 k).2 rfl)).trans h.2⟩⟩
/-- A call of yield: what the other party does in between. -/
def YOk (P : Program) (l : Nat) (X : T) (z : Ent0) (b : Bool) (z' : Ent0) : Prop := ∀ v u w (F : Nat → Prop), Sub u w → X.rep B0 u v → z.hold u w F → (∀ k, F k → Dead u k ∧ k < w.heap.size) →
  ∃ fn tmps ac bd, (Instr.yield l #[v]).run P w = .ok (.round l fn tmps ac bd) w ∧ RoundIn Fence.wide 0 P l fn tmps ac bd w fun e w' => e = .returned (.bool b) ∧ ∃ u' F', Tr F u w u' w' ∧ z'.hold u' w' F' ∧ (∀ k, F' k → Dead u' k ∧ k < w'.heap.size) ∧ ∀ k, F' k → F k ∨ w.heap.size ≤ k
section
variable {P : Program} {ops : Array Oper} {fin : List OpS → List (Nat × T) → List (Nat × Option Ent) → Prop} {r : List Oper} {H : List OpS} {g : List (Nat × T)} {E : List (Nat × Option Ent)} {o : Oper}
variable {t : Option Nat} {ty : TypeId} {ps : String} {af : Array Edge} {gd : Option (Nat × Bool)} {x y : Operand} {X Y : T} {e : Nat}
end
section
variable {c : Ctx} {n : Nat} {g : List (Nat × T)} {E : List (Nat × Option Ent)} {a : Act} {w : World}
end
section
variable {P : Program} {c : Ctx} {n : Nat} {g g' : List (Nat × T)} {E E' : List (Nat × Option Ent)} {Q : Exit → Act → World → Prop}
theorem InSt.congr {a : Act} {w : World} (h : InSt c n g E a w) (he : ∀ e, lkE E' e = lkE E e) : InSt c n g E' a w := by
  unfold InSt at *
  rw [show lkE E' = lkE E from funext he]
  exact h
def Ctx.put (c : Ctx) (D : Nat) : Ctx := { c with df := { target := .collected D, args := #[] } :: c.df }
end
section
variable {P : Program} {c : Ctx} {n : Nat} {g : List (Nat × T)} {E : List (Nat × Option Ent)} {fn : Func} {R : Ending → World → Prop}
theorem pn_off (h : PN c n (bodyPost P fn R .ret) g E) : PN c n (bodyPost P fn R .normal) g E := h
variable {Eo : List (Nat × Ent)} {N I : List Nat} {X : T}
theorem ret0 (hI : c.I = I) (hr : fn.results = #[]) (hX : (T.tup []).le X) (hE : SubE (somes Eo) E) (hok : retOk I Eo N X = true := by kernel_rfl) (hdf : c.df = [] := by rfl) : PN c n (bodyPost P fn (Back c Eo N X) .ret) g E :=
  ret_any hI hok hE hX (hdf := hdf) fun β u w F tmps hs ht hH => by
    refine ⟨.tuple #[], ?_, [], rfl, trivial⟩
    unfold results
    rw [hr]
    simp
end
end Go.Proofs.YtekghdfbhbhigaaGreatDoor.V
/- The numbers about a centre, one behind another; small things of values. -/
set_option linter.unusedVariables false
set_option maxRecDepth 100000
namespace Go.Proofs.YtekghdfbhbhigaaGreatDoor.V
open Go.RowKit Mt Nml
theorem ediv_is {M q a : Int} (hM : 0 < M) (h1 : M * a ≤ q) (h2 : q < M * a + M) : q / M = a := by
  have e1 : q / M < a + 1 := Int.ediv_lt_of_lt_mul hM (by rw [Int.add_mul, Int.one_mul, Int.mul_comm]; exact h2)
  have e2 : a ≤ q / M := Int.le_ediv_of_mul_le hM (by rw [Int.mul_comm]; exact h1)
  omega
theorem nth_zero (c : Rat) : nth c 0 = nea c := by
  unfold nth
  split <;> simp
theorem bhd_nth (c : Rat) (k : Nat) : bhd c (nth c k) = nth c (k + 1) := by
  have hM := den_p' c
  have e := nea_eq c
  have h1 := Int.ediv_mul_le (2 * c.num + (c.den : Int)) (b := 2 * (c.den : Int)) (by omega)
  have h2 := Int.lt_ediv_add_one_mul_self (2 * c.num + (c.den : Int)) (b := 2 * (c.den : Int)) (by omega)
  unfold bhd
  simp only [mir_eq, c_lt_int]
  unfold nth
  simp only [int_le_c, eq_iff_iff]
  rw [← e] at h1 h2
  generalize nea c = y at *
  generalize c.num = N at *
  generalize (c.den : Int) = M at *
  have e1 : y * (2 * M) = 2 * (M * y) := by rw [Int.mul_comm y, Int.mul_assoc]
  have e2 : (y + 1) * (2 * M) = 2 * (M * y) + 2 * M := by rw [Int.add_mul, e1]; omega
  rw [e1] at h1
  rw [e2] at h2
  obtain ⟨j, hj⟩ : ∃ j, k = 2 * j ∨ k = 2 * j + 1 := ⟨k / 2, by omega⟩
  have hp : 0 ≤ M * (j : Int) := Int.mul_nonneg (by omega) (by omega)
  have a1 : ∀ z : Int, M * (y + z) = M * y + M * z := fun z => Int.mul_add _ _ _
  have a2 : ∀ z : Int, M * (y - z) = M * y - M * z := fun z => Int.mul_sub _ _ _
  have a3 : M * ((j + 1 : Nat) : Int) = M * (j : Int) + M := by rw [Int.natCast_add, Int.mul_add]; show _ + M * 1 = _; omega
  have a4 : M * ((j : Int) + 1) = M * (j : Int) + M := by rw [Int.mul_add]; omega
  rcases hj with rfl | rfl
  · rw [show (2 * j + 1) / 2 = j by omega, show (2 * j + 1 + 1) / 2 = j + 1 by omega]
    have p1 : ¬ (2 * j % 2 = 1) := by omega
    have p2 : (2 * j + 1) % 2 = 1 := by omega
    by_cases h : M * y ≤ N
    · have v1 : (if (2 * j % 2 = 1 ↔ M * y ≤ N) then y + (j : Int) else y - (j : Int)) = y - (j : Int) := if_neg (by simp [p1, h])
      have v2 : (if ((2 * j + 1) % 2 = 1 ↔ M * y ≤ N) then y + ((j + 1 : Nat) : Int) else y - ((j + 1 : Nat) : Int)) = y + ((j + 1 : Nat) : Int) := if_pos (by simp [p2, h])
      rw [v1, v2, a2, if_neg (by omega), ediv_is (a := y + (j : Int)) hM (by rw [a1]; omega) (by rw [a1]; omega)]
      omega
    · have v1 : (if (2 * j % 2 = 1 ↔ M * y ≤ N) then y + (j : Int) else y - (j : Int)) = y + (j : Int) := if_pos (by simp [p1, h])
      have v2 : (if ((2 * j + 1) % 2 = 1 ↔ M * y ≤ N) then y + ((j + 1 : Nat) : Int) else y - ((j + 1 : Nat) : Int)) = y - ((j + 1 : Nat) : Int) := if_neg (by simp [p2, h])
      rw [v1, v2, a1, if_pos (by omega), ediv_is (a := y - ((j : Int) + 1)) hM (by rw [a2, a4]; omega) (by rw [a2, a4]; omega)]
      omega
  · rw [show (2 * j + 1 + 1) / 2 = j + 1 by omega, show (2 * j + 1 + 1 + 1) / 2 = j + 1 by omega]
    have p1 : (2 * j + 1) % 2 = 1 := by omega
    have p2 : ¬ ((2 * j + 1 + 1) % 2 = 1) := by omega
    by_cases h : M * y ≤ N
    · have v1 : (if ((2 * j + 1) % 2 = 1 ↔ M * y ≤ N) then y + ((j + 1 : Nat) : Int) else y - ((j + 1 : Nat) : Int)) = y + ((j + 1 : Nat) : Int) := if_pos (by simp [p1, h])
      have v2 : (if ((2 * j + 1 + 1) % 2 = 1 ↔ M * y ≤ N) then y + ((j + 1 : Nat) : Int) else y - ((j + 1 : Nat) : Int)) = y - ((j + 1 : Nat) : Int) := if_neg (by simp [p2, h])
      rw [v1, v2, a1, a3, if_pos (by omega), ediv_is (a := y - ((j : Int) + 1)) hM (by rw [a2, a4]; omega) (by rw [a2, a4]; omega)]
      omega
    · have v1 : (if ((2 * j + 1) % 2 = 1 ↔ M * y ≤ N) then y + ((j + 1 : Nat) : Int) else y - ((j + 1 : Nat) : Int)) = y - ((j + 1 : Nat) : Int) := if_neg (by simp [p1, h])
      have v2 : (if ((2 * j + 1 + 1) % 2 = 1 ↔ M * y ≤ N) then y + ((j + 1 : Nat) : Int) else y - ((j + 1 : Nat) : Int)) = y + ((j + 1 : Nat) : Int) := if_pos (by simp [p2, h])
      rw [v1, v2, a2, a3, if_neg (by omega), ediv_is (a := y + (j : Int)) hM (by rw [a1]; omega) (by rw [a1]; omega)]
      omega
/-- One's own in a round is another's concern. -/
theorem YOk.le {P : Program} {l : Nat} {X Y : T} {z z' : Ent0} {b : Bool} (h : YOk P l Y z b z') (hl : X.le Y) : YOk P l X z b z' := fun v u w F hs hv hz hd => h v u w F hs (hl _ _ _ hv) hz hd
end Go.Proofs.YtekghdfbhbhigaaGreatDoor.V
/- Search trees: iterators. -/
set_option linter.unusedVariables false
set_option linter.unusedSimpArgs false
set_option maxRecDepth 100000
namespace Go.Proofs.YtekghdfbhbhigaaGreatDoor.V
open Go.RowKit Mt Nml
abbrev T.Y (l : Nat) : T := T.c (.func (.yield l) #[] #[])
theorem cq_le {x y : Rat} : cq x y ≤ 0 ↔ x ≤ y := by
  unfold cq
  by_cases h : x < y
  · rw [if_pos h]; exact ⟨fun _ => Rat.le_of_lt h, fun _ => by decide⟩
  · rw [if_neg h]
    by_cases h2 : y < x
    · rw [if_pos h2]; exact ⟨fun h => absurd h (by decide), fun h => absurd h (Rat.not_le.2 h2)⟩
    · rw [if_neg h2]; exact ⟨fun _ => Rat.not_lt.1 h2, fun _ => by decide⟩

end Go.Proofs.YtekghdfbhbhigaaGreatDoor.V
/- The nodes of a search tree below a suffix, in their order. -/
set_option linter.unusedVariables false
set_option maxRecDepth 100000
namespace Go.Proofs.YtekghdfbhbhigaaGreatDoor.V
open Go.RowKit Mt Nml
/-- The first j children with what lies below them. -/
def fl (s : List Int) (x : Nat → Int) (LL : Nat → List (List Int)) : Nat → List (List Int)
  | 0 => []
  | j + 1 => fl s x LL j ++ ((s ++ [x j]) :: LL j)
section
variable (s : List Int) (x : Nat → Int) (LL : Nat → List (List Int))
theorem fl_len (j : Nat) : (fl s x LL (j + 1)).length = (fl s x LL j).length + 1 + (LL j).length := by
  show (fl s x LL j ++ _).length = _
  rw [List.length_append, List.length_cons]; omega
theorem fl_mono {i j : Nat} (h : i ≤ j) : (fl s x LL i).length ≤ (fl s x LL j).length := by
  induction j with
  | zero => rw [show i = 0 by omega]; exact Nat.le_refl _
  | succ j ih =>
    rcases Nat.lt_or_ge i (j + 1) with h1 | h1
    · have := ih (by omega); rw [fl_len]; omega
    · rw [show i = j + 1 by omega]; exact Nat.le_refl _
theorem fl_get {i m : Nat} (h : i < m) (k : Nat) (hk : k < (LL i).length + 1) : (fl s x LL m).getD ((fl s x LL i).length + k) [] = ((s ++ [x i]) :: LL i).getD k [] := by
  induction m with
  | zero => omega
  | succ m ih =>
    show (fl s x LL m ++ ((s ++ [x m]) :: LL m)).getD _ [] = _
    rcases Nat.lt_or_ge i m with h1 | h1
    · have h2 := fl_mono s x LL (show i + 1 ≤ m by omega)
      rw [fl_len] at h2
      rw [← ih h1]
      simp only [List.getD_eq_getElem?_getD]
      rw [List.getElem?_append_left (by omega)]
    · obtain rfl : i = m := by omega
      simp only [List.getD_eq_getElem?_getD]
      rw [List.getElem?_append_right (by omega), Nat.add_sub_cancel_left]
/-- In which child's part a place lies. -/
theorem fl_at {m K : Nat} (h : K ≤ (fl s x LL m).length) : ∃ J, J ≤ m ∧ (fl s x LL J).length ≤ K ∧ (J < m → K < (fl s x LL (J + 1)).length) ∧ (J = m → K = (fl s x LL m).length) := by
  induction m with
  | zero => exact ⟨0, Nat.le_refl _, Nat.zero_le _, fun h => absurd h (Nat.lt_irrefl _), fun _ => by have : (fl s x LL 0).length = 0 := rfl; omega⟩
  | succ m ih =>
    rcases Nat.lt_or_ge K (fl s x LL (m + 1)).length with h1 | h1
    · rcases Nat.lt_or_ge K (fl s x LL m).length with h2 | h2
      · obtain ⟨J, k1, k2, k3, k4⟩ := ih (by omega)
        rcases Nat.lt_or_ge J m with h3 | h3
        · exact ⟨J, by omega, k2, fun _ => k3 h3, fun h => by omega⟩
        · have := k4 (by omega); omega
      · exact ⟨m, by omega, h2, fun _ => h1, fun h => by omega⟩
    · exact ⟨m + 1, Nat.le_refl _, h1, fun h => absurd h (Nat.lt_irrefl _), fun _ => by omega⟩
end
/-- These are the nodes below a suffix of d numbers, in the order of the tree. -/
inductive Bel (D : List Int) (L : List (List Int)) (ts : List (Int × Int)) (n k : Nat) (R : Rat) : List Int → Nat → List (List Int) → Prop
  | leaf (s : List Int) : Bel D L ts n k R s n []
  | node (s : List Int) (d m : Nat) (LL : Nat → List (List Int)) (hd : d < n)
      (hz : ∀ j, j ≤ m → zl (nth (ctT D L ts s (n - 1) (n - 1 - d) d) j) ≤ k)
      (hw : ∀ j, j < m → ptT D L ts (s ++ [nth (ctT D L ts s (n - 1) (n - 1 - d) d) j]) (n - 1) (d + 1) ≤ R)
      (hn : ¬ ptT D L ts (s ++ [nth (ctT D L ts s (n - 1) (n - 1 - d) d) m]) (n - 1) (d + 1) ≤ R)
      (hB : ∀ j, j < m → Bel D L ts n k R (s ++ [nth (ctT D L ts s (n - 1) (n - 1 - d) d) j]) (d + 1) (LL j)) : Bel D L ts n k R s d (fl s (nth (ctT D L ts s (n - 1) (n - 1 - d) d)) LL m)
end Go.Proofs.YtekghdfbhbhigaaGreatDoor.V
/- Search trees: the nodes below a suffix. -/
set_option linter.unusedVariables false
set_option linter.unusedSimpArgs false
set_option maxRecDepth 100000
namespace Go.Proofs.YtekghdfbhbhigaaGreatDoor.V
open Go.RowKit Mt Nml
end Go.Proofs.YtekghdfbhbhigaaGreatDoor.V
/- How many nodes have how many numbers. -/
set_option linter.unusedVariables false
set_option maxRecDepth 100000
namespace Go.Proofs.YtekghdfbhbhigaaGreatDoor.V
open Go.RowKit Mt Nml
theorem Bel.len {D : List Int} {L : List (List Int)} {ts : List (Int × Int)} {n k : Nat} {R : Rat} {s : List Int} {d : Nat} {ns : List (List Int)} (h : Bel D L ts n k R s d ns) : s.length = d → ∀ i, i < ns.length → d < (ns.getD i []).length ∧ (ns.getD i []).length ≤ n := by
  induction h with
  | leaf s => exact fun _ i hi => absurd hi (Nat.not_lt_zero _)
  | node s d m LL hd hz hw hn hB ih =>
    intro hs i hi
    subst hs
    obtain ⟨J, k1, k2, k3, k4⟩ := fl_at s (nth (ctT D L ts s (n - 1) (n - 1 - s.length) s.length)) LL (Nat.le_of_lt hi)
    have hJ : J < m := by
      rcases Nat.lt_or_ge J m with h | h
      · exact h
      · have := k4 (by omega); omega
    have k5 := k3 hJ
    rw [fl_len] at k5
    have h1 := fl_get s (nth (ctT D L ts s (n - 1) (n - 1 - s.length) s.length)) LL hJ (i - (fl s (nth (ctT D L ts s (n - 1) (n - 1 - s.length) s.length)) LL J).length) (by omega)
    rw [show (fl s (nth (ctT D L ts s (n - 1) (n - 1 - s.length) s.length)) LL J).length + (i - (fl s (nth (ctT D L ts s (n - 1) (n - 1 - s.length) s.length)) LL J).length) = i by omega] at h1
    rw [h1]
    rcases Nat.eq_zero_or_pos (i - (fl s (nth (ctT D L ts s (n - 1) (n - 1 - s.length) s.length)) LL J).length) with h0 | h0
    · rw [h0]
      show s.length < (s ++ [_]).length ∧ (s ++ [_]).length ≤ n
      rw [List.length_append]
      exact ⟨Nat.lt_succ_self _, hd⟩
    · obtain ⟨i', hi'⟩ : ∃ i', i - (fl s (nth (ctT D L ts s (n - 1) (n - 1 - s.length) s.length)) LL J).length = i' + 1 := ⟨i - (fl s (nth (ctT D L ts s (n - 1) (n - 1 - s.length) s.length)) LL J).length - 1, by omega⟩
      rw [hi']
      have := ih J hJ (by simp) i' (by omega)
      exact ⟨by have := this.1; show s.length < ((LL J).getD i' []).length; omega, this.2⟩
end Go.Proofs.YtekghdfbhbhigaaGreatDoor.V
/- Search trees: nodes counted. -/
set_option linter.unusedVariables false
set_option linter.unusedSimpArgs false
set_option maxRecDepth 100000
namespace Go.Proofs.YtekghdfbhbhigaaGreatDoor.V
open Go.RowKit Mt Nml
end Go.Proofs.YtekghdfbhbhigaaGreatDoor.V
/- Search trees: the call whose answer is known. -/
set_option linter.unusedVariables false
set_option linter.unusedSimpArgs false
set_option maxRecDepth 100000
namespace Go.Proofs.YtekghdfbhbhigaaGreatDoor.V
open Go.RowKit Mt Nml
section
variable {P : Program} {ops : Array Oper} {fin : List OpS → List (Nat × T) → List (Nat × Option Ent) → Prop} {r : List Oper} {H : List OpS} {g : List (Nat × T)} {E : List (Nat × Option Ent)} {o : Oper}
variable {t : Option Nat} {ty : TypeId} {ps : String} {af : Array Edge} {gd : Option (Nat × Bool)} {x y : Operand} {X Y : T} {e off m : Nat} {b : Bool} {l l' : List T} {et : TypeId}
end
theorem stTr : StructT Tryz.prog 35 [T.c (.slice none 0 0), T.c (.slice none 0 0), T.c (.slice none 0 0), T.c (.bool false), T.c (.slice none 0 0), T.c (.bool false), T.c (.slice none 0 0)] [(0, 2), (2, 1), (3, 4)] := StructT.mk' (zs := [.slice none 0 0, .slice none 0 0, .slice none 0 0, .bool false, .slice none 0 0, .bool false, .slice none 0 0])
theorem zeTr : Zero Tryz.prog 35 [T.c (.slice none 0 0), T.c (.slice none 0 0), T.c (.slice none 0 0), T.c (.bool false), T.c (.slice none 0 0), T.c (.bool false), T.c (.slice none 0 0)] := zero_of (zs := [.slice none 0 0, .slice none 0 0, .slice none 0 0, .bool false, .slice none 0 0, .bool false, .slice none 0 0]) (z := .agg #[.slice none 0 0, .slice none 0 0, .slice none 0 0, .bool false, .slice none 0 0, .bool false, .slice none 0 0]) (by kernel_rfl)

end Go.Proofs.YtekghdfbhbhigaaGreatDoor.V
/- Search trees: nearer numbers come first. -/
set_option linter.unusedVariables false
set_option linter.unusedSimpArgs false
set_option maxRecDepth 100000
namespace Go.Proofs.YtekghdfbhbhigaaGreatDoor.V
open Go.RowKit Mt Nml
end Go.Proofs.YtekghdfbhbhigaaGreatDoor.V
/- Search trees: the document's numbers about a centre. -/
set_option linter.unusedVariables false
set_option linter.unusedSimpArgs false
set_option maxRecDepth 100000
namespace Go.Proofs.YtekghdfbhbhigaaGreatDoor.V
open Go.RowKit Mt Nml
end Go.Proofs.YtekghdfbhbhigaaGreatDoor.V
/- Search trees: what is no tree, what is too long. -/
set_option linter.unusedVariables false
set_option linter.unusedSimpArgs false
set_option maxRecDepth 100000
namespace Go.Proofs.YtekghdfbhbhigaaGreatDoor.V
open Go.RowKit Mt Nml
end Go.Proofs.YtekghdfbhbhigaaGreatDoor.V
/- Search trees: the document's parts and centres. -/
set_option linter.unusedVariables false
set_option linter.unusedSimpArgs false
set_option maxRecDepth 100000
namespace Go.Proofs.YtekghdfbhbhigaaGreatDoor.V
open Go.RowKit Mt Nml
end Go.Proofs.YtekghdfbhbhigaaGreatDoor.V
/- Search trees: every suffix has the part that its definition tells. -/
set_option linter.unusedVariables false
set_option linter.unusedSimpArgs false
set_option maxRecDepth 100000
namespace Go.Proofs.YtekghdfbhbhigaaGreatDoor.V
open Go.RowKit Mt Nml
-- left out

-- left out

-- left out

-- left out
end Go.Proofs.YtekghdfbhbhigaaGreatDoor.V
/- A search tree: how large its numbers are; each suffix has so many nodes below it. -/
set_option linter.unusedVariables false
set_option maxRecDepth 100000
namespace Go.Proofs.YtekghdfbhbhigaaGreatDoor.V
open Go.RowKit Mt Nml
/-- A fraction's size. -/
def Rb (q : Rat) (e : Nat) : Prop := -((B e : Int) : Rat) ≤ q ∧ q ≤ ((B e : Int) : Rat)
theorem B_rp (e : Nat) : (1 : Rat) ≤ ((B e : Int) : Rat) := by
  have := Int.add_one_le_iff.2 (B_pos e)
  rw [show (1 : Rat) = ((1 : Int) : Rat) from rfl, Rat.intCast_le_intCast]
  omega
theorem B_rm {e f : Nat} (h : e ≤ f) : ((B e : Int) : Rat) ≤ ((B f : Int) : Rat) := Rat.intCast_le_intCast.2 (B_mono h)
theorem B_r2 (e : Nat) : ((B e : Int) : Rat) + ((B e : Int) : Rat) ≤ ((B (e + 1) : Int) : Rat) := by
  rw [← Rat.intCast_add, Rat.intCast_le_intCast, B_succ]
  have := B_pos e
  omega
theorem B_rmul (e f : Nat) : ((B (e + f) : Int) : Rat) = ((B e : Int) : Rat) * ((B f : Int) : Rat) := by rw [B_add, Rat.intCast_mul]
theorem Rb.mono {q : Rat} {e f : Nat} (h : Rb q e) (hf : e ≤ f) : Rb q f := by
  have := B_rm hf
  unfold Rb at *
  generalize ((B e : Int) : Rat) = x at *
  generalize ((B f : Int) : Rat) = y at *
  grind
theorem Rb.add {x y : Rat} {e : Nat} (h : Rb x e) (k : Rb y e) : Rb (x + y) (e + 1) := by
  have := B_r2 e
  unfold Rb at *
  generalize ((B e : Int) : Rat) = a at *
  generalize ((B (e + 1) : Int) : Rat) = b at *
  grind
theorem Rb.sub {x y : Rat} {e : Nat} (h : Rb x e) (k : Rb y e) : Rb (x - y) (e + 1) := by
  have := B_r2 e
  unfold Rb at *
  generalize ((B e : Int) : Rat) = a at *
  generalize ((B (e + 1) : Int) : Rat) = b at *
  grind
theorem Rb.mul {x y : Rat} {e f : Nat} (h : Rb x e) (k : Rb y f) : Rb (x * y) (e + f) := by
  unfold Rb at *
  rw [B_rmul]
  generalize ((B e : Int) : Rat) = a at *
  generalize ((B f : Int) : Rat) = c at *
  obtain ⟨h1, h2⟩ := h
  obtain ⟨k1, k2⟩ := k
  have p1 := Rat.mul_nonneg (show 0 ≤ a - x by grind) (show 0 ≤ c + y by grind)
  have p2 := Rat.mul_nonneg (show 0 ≤ a + x by grind) (show 0 ≤ c - y by grind)
  have p3 := Rat.mul_nonneg (show 0 ≤ a - x by grind) (show 0 ≤ c - y by grind)
  have p4 := Rat.mul_nonneg (show 0 ≤ a + x by grind) (show 0 ≤ c + y by grind)
  grind
theorem zl_B {z : Int} {e : Nat} (h : zl z ≤ e) : -(B e) < z ∧ z < B e := by
  have h1 := lt_B_lim z.natAbs
  have h2 := B_mono (show lim z.natAbs ≤ e from h)
  omega
theorem B_zl {z : Int} {e : Nat} (h : -(B e) ≤ z) (h2 : z ≤ B e) : zl z ≤ e + 1 := by
  unfold zl
  refine lim_le ?_
  have := B_pos e
  rw [B_succ]
  omega
theorem Rb.int {z : Int} {e : Nat} (h : zl z ≤ e) : Rb (z : Rat) e := by
  have := zl_B h
  unfold Rb
  rw [← Rat.intCast_neg, Rat.intCast_le_intCast, Rat.intCast_le_intCast]
  omega
theorem Rb.frac {a b : Int} {e : Nat} (h : zl a ≤ e) (hb : 0 < b) : Rb ((a : Rat) / (b : Rat)) e := by
  have h1 := zl_B h
  have hp := B_pos e
  have hm := Int.mul_le_mul_of_nonneg_left (show 1 ≤ b by omega) (show 0 ≤ B e by omega)
  refine ⟨?_, Rat.le_of_lt ?_⟩
  · rw [← Rat.intCast_neg, rle_div hb, Int.neg_mul]
    omega
  · rw [Rat.div_lt_iff (Rat.intCast_pos.2 hb), ← Rat.intCast_mul, Rat.intCast_lt_intCast]
    omega
/-- A whole number of such a size. -/
theorem Rb.zl {z : Int} {e : Nat} (h : Rb (z : Rat) e) : zl z ≤ e + 1 := by
  unfold Rb at h
  rw [← Rat.intCast_neg, Rat.intCast_le_intCast, Rat.intCast_le_intCast] at h
  exact B_zl h.1 h.2
theorem nea_Rb {c : Rat} {e : Nat} (h : Rb c e) : Rb ((nea c : Int) : Rat) (e + 1) := by
  have h1 := nea_b c
  have h2 := B_r2 e
  have h3 := B_rp e
  unfold Rb at *
  generalize ((nea c : Int) : Rat) = x at *
  generalize ((B e : Int) : Rat) = a at *
  generalize ((B (e + 1) : Int) : Rat) = b at *
  grind
/-- How far the k-th number is from the nearest. -/
theorem nth_far (c : Rat) (j : Nat) : nth c j = nea c + (((j + 1) / 2 : Nat) : Int) ∨ nth c j = nea c - (((j + 1) / 2 : Nat) : Int) := by
  unfold nth
  split
  · exact .inl rfl
  · exact .inr rfl
theorem nth_zl {c : Rat} {e j : Nat} (h : Rb c e) (hj : (((j + 1) / 2 : Nat) : Int) ≤ B (e + 1)) : zl (nth c j) ≤ e + 3 := by
  have h1 := nea_Rb h
  have h2 : Rb (((((j + 1) / 2 : Nat) : Int)) : Rat) (e + 1) := by
    have := B_pos (e + 1)
    unfold Rb
    rw [← Rat.intCast_neg, Rat.intCast_le_intCast, Rat.intCast_le_intCast]
    omega
  rcases nth_far c j with h3 | h3 <;> rw [h3]
  · have := Rb.add h1 h2
    rw [← Rat.intCast_add] at this
    exact Rb.zl this
  · have := Rb.sub h1 h2
    rw [← Rat.intCast_sub] at this
    exact Rb.zl this
theorem tq_Rb {D : List Int} {L : List (List Int)} {ts : List (Int × Int)} {n k : Nat} (h : TrS D L ts n k) {i : Nat} (hi : i < n) : Rb (aqT ts i) k := by
  unfold aqT
  split
  · exact Rb.mono (Rb.int (z := 0) (e := 0) (by rw [zl_zero]; exact Nat.le_refl _)) (Nat.zero_le _)
  · rename_i h0
    rcases h.tl with h1 | h1
    · exact absurd h1 h0
    · exact Rb.frac (h.zt i (by omega)).1 (h.tp i (by omega))
theorem ct_Rb {D : List Int} {L : List (List Int)} {ts : List (Int × Int)} {n k : Nat} (h : TrS D L ts n k) {s : List Int} {b : Nat} (hkb : k ≤ b) (hs : ∀ j, zl (s.getD j 0) ≤ b) {m i : Nat} (hm : m + 1 = n) : ∀ {c : Nat}, i + c ≤ m → Rb (ctT D L ts s m i c) (b + k + 2 + c)
  | 0, hc => Rb.mono (tq_Rb h (by omega)) (by omega)
  | c + 1, hc => by
    have h1 := ct_Rb h hkb hs hm (i := i) (c := c) (by omega)
    have h2 := Rb.mul (Rb.sub (Rb.int (hs c)) (Rb.mono (tq_Rb h (i := m - c) (by omega)) hkb)) (Rb.frac (h.zL i (m - c)) (h.dp (i := i + 1) (by omega)))
    exact Rb.sub h1 (Rb.mono (f := b + k + 2 + c) h2 (by omega))
/-- A part within the bound: the number is near. -/
theorem near_Rb {D : List Int} {L : List (List Int)} {ts : List (Int × Int)} {n k : Nat} (h : TrS D L ts n k) {i : Nat} (hi : i < n) {p R y : Rat} (hp : 0 ≤ p) (hR : Rb R k) (hw : p + y * y * stq D i ≤ R) : Rb y (2 * k) := by
  have d0 := h.dp (i := i) (by omega)
  have d1 := h.dp (i := i + 1) (by omega)
  have z0 := zl_B (h.zD i)
  have h0 : (0 : Rat) < ((D.getD i 0 : Int) : Rat) := Rat.intCast_pos.2 d0
  have h1 : (1 : Rat) ≤ ((D.getD (i + 1) 0 : Int) : Rat) := by
    rw [show (1 : Rat) = ((1 : Int) : Rat) from rfl, Rat.intCast_le_intCast]; omega
  have h2 : ((D.getD i 0 : Int) : Rat) ≤ ((B k : Int) : Rat) := Rat.intCast_le_intCast.2 (by omega)
  have hb1 := B_rp k
  have hb2 := B_rmul k k
  have hst : stq D i * ((D.getD i 0 : Int) : Rat) = ((D.getD (i + 1) 0 : Int) : Rat) := by
    unfold stq
    generalize ((D.getD i 0 : Int) : Rat) = x at *
    grind
  have hR2 := hR.2
  rw [show 2 * k = k + k by omega]
  unfold Rb
  rw [hb2]
  generalize stq D i = st at *
  generalize ((D.getD i 0 : Int) : Rat) = x at *
  generalize ((D.getD (i + 1) 0 : Int) : Rat) = x1 at *
  generalize ((B k : Int) : Rat) = b at *
  have hyy : 0 ≤ y * y := by
    rcases Rat.le_total (a := 0) (b := y) with h | h
    · exact Rat.mul_nonneg h h
    · have := Rat.mul_nonneg (show 0 ≤ -y by grind) (show 0 ≤ -y by grind)
      grind
  have q1 : y * y * st ≤ b := by grind
  have q2 : y * y * st * x ≤ b * x := Rat.mul_le_mul_of_nonneg_right q1 (Rat.le_of_lt h0)
  have q3 : y * y * st * x = y * y * x1 := by rw [← hst]; grind
  have q4 : 0 ≤ y * y * (x1 - 1) := Rat.mul_nonneg hyy (by grind)
  have q5 : 0 ≤ b * (b - x) := Rat.mul_nonneg (by grind) (by grind)
  have q6 : y * y ≤ b * b := by grind
  have q7 : 1 ≤ b * b := by
    have := Rat.mul_nonneg (show 0 ≤ b - 1 by grind) (show 0 ≤ b + 1 by grind)
    grind
  constructor
  · refine Rat.not_lt.1 fun hlt => ?_
    have := Rat.mul_nonneg (show 0 ≤ -y by grind) (show 0 ≤ -y - 1 by grind)
    grind
  · refine Rat.not_lt.1 fun hlt => ?_
    have := Rat.mul_nonneg (show 0 ≤ y by grind) (show 0 ≤ y - 1 by grind)
    grind
theorem least_not {P : Nat → Prop} : ∀ {n : Nat}, (¬ ∀ i, i < n → P i) → ∃ w, w < n ∧ ¬ P w ∧ ∀ i, i < w → P i
  | 0, h => absurd (fun i hi => absurd hi (Nat.not_lt_zero _)) h
  | n + 1, h => by
    classical
    by_cases h1 : ∀ i, i < n → P i
    · refine ⟨n, Nat.lt_succ_self _, fun hp => h fun i hi => ?_, h1⟩
      rcases Nat.lt_or_eq_of_le (Nat.le_of_lt_succ hi) with h2 | h2
      · exact h1 i h2
      · rw [h2]; exact hp
    · obtain ⟨w, k1, k2, k3⟩ := least_not h1
      exact ⟨w, by omega, k2, k3⟩
theorem stq_pos {D : List Int} {L : List (List Int)} {ts : List (Int × Int)} {n k : Nat} (h : TrS D L ts n k) {i : Nat} (hi : i < n) : 0 < stq D i := by
  have d0 := h.dp (i := i) (by omega)
  have d1 := h.dp (i := i + 1) (by omega)
  unfold stq
  rw [Rat.div_def]
  exact Rat.mul_pos (Rat.intCast_pos.2 d1) (Rat.inv_pos.2 (Rat.intCast_pos.2 d0))
theorem sq_nn (y : Rat) : 0 ≤ y * y := by
  rcases Rat.le_total (a := 0) (b := y) with h | h
  · exact Rat.mul_nonneg h h
  · have := Rat.mul_nonneg (show 0 ≤ -y by grind) (show 0 ≤ -y by grind)
    grind
theorem pt_nn {D : List Int} {L : List (List Int)} {ts : List (Int × Int)} {n k : Nat} (h : TrS D L ts n k) (s : List Int) {m : Nat} (hm : m + 1 = n) : ∀ {c : Nat}, c ≤ n → 0 ≤ ptT D L ts s m c
  | 0, _ => Rat.le_refl
  | c + 1, hc => by
    have h1 := pt_nn h s hm (c := c) (by omega)
    have h2 := Rat.mul_nonneg (sq_nn (((s.getD c 0 : Int) : Rat) - ctT D L ts s m (m - c) c)) (Rat.le_of_lt (stq_pos h (i := m - c) (by omega)))
    show 0 ≤ ptT D L ts s m c + _
    grind
theorem getD_snoc' {s : List Int} {x : Int} (j : Nat) : (s ++ [x]).getD j 0 = if j = s.length then x else s.getD j 0 := by
  simp only [List.getD_eq_getElem?_getD, List.getElem?_append]
  by_cases h : j < s.length
  · rw [if_pos h, if_neg (by omega)]
  · rw [if_neg h]
    by_cases h2 : j = s.length
    · rw [if_pos h2, h2]; simp
    · rw [if_neg h2, List.getElem?_eq_none (by simp; omega), List.getElem?_eq_none (by omega)]
theorem pt_snoc' (D : List Int) (L : List (List Int)) (ts : List (Int × Int)) (s : List Int) (m : Nat) (x : Int) : ptT D L ts (s ++ [x]) m (s.length + 1) = ptT D L ts s m s.length + ((x : Rat) - ctT D L ts s m (m - s.length) s.length) * ((x : Rat) - ctT D L ts s m (m - s.length) s.length) * stq D (m - s.length) := by
  show ptT D L ts (s ++ [x]) m s.length + _ = _
  have e1 : ptT D L ts (s ++ [x]) m s.length = ptT D L ts s m s.length := ptT_ext fun j hj => by rw [getD_snoc', if_neg (by omega)]
  have e2 : ctT D L ts (s ++ [x]) m (m - s.length) s.length = ctT D L ts s m (m - s.length) s.length := ctT_ext fun j hj => by rw [getD_snoc', if_neg (by omega)]
  rw [e1, e2, getD_snoc', if_pos rfl]
/-- How many children are nodes, and how large they are. -/
theorem kids_ex {D : List Int} {L : List (List Int)} {ts : List (Int × Int)} {n k : Nat} (h : TrS D L ts n k) {s : List Int} {b : Nat} (hkb : k ≤ b) (hs : ∀ j, zl (s.getD j 0) ≤ b) (hl : s.length < n) {R : Rat} (hR : Rb R k) :
    ∃ m, (∀ j, j ≤ m → zl (nth (ctT D L ts s (n - 1) (n - 1 - s.length) s.length) j) ≤ b + k + 20) ∧ (∀ j, j < m → ptT D L ts (s ++ [nth (ctT D L ts s (n - 1) (n - 1 - s.length) s.length) j]) (n - 1) (s.length + 1) ≤ R) ∧ ¬ ptT D L ts (s ++ [nth (ctT D L ts s (n - 1) (n - 1 - s.length) s.length) m]) (n - 1) (s.length + 1) ≤ R := by
  have hn := h.twelve
  have hc := Rb.mono (ct_Rb h hkb hs (m := n - 1) (i := n - 1 - s.length) (c := s.length) (by omega) (by omega)) (show _ ≤ b + k + 13 by omega)
  have hp := pt_nn h s (m := n - 1) (c := s.length) (by omega) (by omega)
  generalize hcc : ctT D L ts s (n - 1) (n - 1 - s.length) s.length = c at *
  -- a node's number is near
  have near : ∀ j, ptT D L ts (s ++ [nth c j]) (n - 1) (s.length + 1) ≤ R → (((j + 1) / 2 : Nat) : Int) ≤ B (b + k + 15) := fun j hj => by
    rw [pt_snoc', hcc] at hj
    have h1 := Rb.mono (near_Rb h (i := n - 1 - s.length) (by omega) hp hR hj) (show 2 * k ≤ b + k + 13 by omega)
    have h2 := Rb.sub (Rb.add h1 hc) (nea_Rb hc)
    have e : ((nth c j : Int) : Rat) - c + c - ((nea c : Int) : Rat) = ((nth c j - nea c : Int) : Rat) := by rw [Rat.intCast_sub]; grind
    rw [e, show b + k + 13 + 1 + 1 = b + k + 15 by omega] at h2
    unfold Rb at h2
    rw [← Rat.intCast_neg, Rat.intCast_le_intCast, Rat.intCast_le_intCast] at h2
    rcases nth_far c j with h3 | h3 <;> rw [h3] at h2 <;> omega
  have hbp := B_pos (b + k + 15)
  have hex : ¬ ∀ j, j < 2 * (B (b + k + 15)).toNat + 2 → ptT D L ts (s ++ [nth c j]) (n - 1) (s.length + 1) ≤ R := fun hall => by
    have := near (2 * (B (b + k + 15)).toNat + 1) (hall _ (by omega))
    omega
  obtain ⟨m, h1, h2, h3⟩ := least_not hex
  refine ⟨m, fun j hj => ?_, h3, h2⟩
  have hj2 : (((j + 1) / 2 : Nat) : Int) ≤ B (b + k + 16) := by
    rw [show b + k + 16 = b + k + 15 + 1 by omega, B_succ]
    omega
  exact Nat.le_trans (nth_zl (e := b + k + 15) (Rb.mono hc (by omega)) hj2) (by omega)
/-- Each suffix has its nodes. -/
theorem Bel.ex {D : List Int} {L : List (List Int)} {ts : List (Int × Int)} {n k K : Nat} (h : TrS D L ts n k) (hK : k + 12 * (k + 20) ≤ K) {R : Rat} (hR : Rb R k) : ∀ (r : Nat) {s : List Int} {d : Nat}, s.length = d → d + r = n → (∀ j, zl (s.getD j 0) ≤ k + d * (k + 20)) → ∃ ns, Bel D L ts n K R s d ns
  | 0, s, d, hs, hd, hz => ⟨[], by rw [show d = n by omega]; exact Bel.leaf s⟩
  | r + 1, s, d, hs, hd, hz => by
    have hn := h.twelve
    obtain ⟨m, h1, h2, h3⟩ := kids_ex h (s := s) (b := k + d * (k + 20)) (by omega) hz (by omega) hR
    rw [hs] at h1 h2 h3
    have e1 : (d + 1) * (k + 20) = d * (k + 20) + (k + 20) := Nat.succ_mul _ _
    have e2 : (d + 1) * (k + 20) ≤ 12 * (k + 20) := Nat.mul_le_mul_right _ (by omega)
    have ih : ∀ j, ∃ ns, j < m → Bel D L ts n K R (s ++ [nth (ctT D L ts s (n - 1) (n - 1 - d) d) j]) (d + 1) ns := fun j => by
      rcases Nat.lt_or_ge j m with hj | hj
      · obtain ⟨ns, hb⟩ := Bel.ex h hK hR r (s := s ++ [nth (ctT D L ts s (n - 1) (n - 1 - d) d) j]) (d := d + 1) (by simp [hs]) (by omega) (fun i => by
          rw [getD_snoc']
          split
          · have := h1 j (by omega); omega
          · have := hz i; omega)
        exact ⟨ns, fun _ => hb⟩
      · exact ⟨[], fun h => by omega⟩
    exact ⟨_, Bel.node s d m (fun j => Classical.choose (ih j)) (by omega) (fun j hj => by have := h1 j hj; omega) h2 h3 (fun j hj => Classical.choose_spec (ih j) hj)⟩
end Go.Proofs.YtekghdfbhbhigaaGreatDoor.V
/- The nodes of a search tree: each begins with its suffix, each follows the one ahead of it. -/
set_option linter.unusedVariables false
set_option maxRecDepth 100000
namespace Go.Proofs.YtekghdfbhbhigaaGreatDoor.V
open Go.RowKit Mt Nml
theorem fl_mem {s : List Int} {x : Nat → Int} {LL : Nat → List (List Int)} {q : List Int} : ∀ {m : Nat}, q ∈ fl s x LL m → ∃ j, j < m ∧ (q = s ++ [x j] ∨ q ∈ LL j)
  | 0, h => by cases h
  | m + 1, h => by
    rcases List.mem_append.1 h with h | h
    · obtain ⟨j, h1, h2⟩ := fl_mem h
      exact ⟨j, by omega, h2⟩
    · rcases List.mem_cons.1 h with h | h
      · exact ⟨m, by omega, .inl h⟩
      · exact ⟨m, by omega, .inr h⟩
/-- What is so of a node below s. -/
structure Nd (D : List Int) (L : List (List Int)) (ts : List (Int × Int)) (n k : Nat) (R : Rat) (s q : List Int) : Prop where
  gt : s.length < q.length
  le : q.length ≤ n
  zl : ∀ j, zl (q.getD j 0) ≤ k
  pt : ptT D L ts q (n - 1) q.length ≤ R
  bg : ∀ j, j < s.length → q.getD j 0 = s.getD j 0
theorem Bel.mem {D : List Int} {L : List (List Int)} {ts : List (Int × Int)} {n k : Nat} {R : Rat} {s : List Int} {d : Nat} {ns : List (List Int)} (h : Bel D L ts n k R s d ns) : s.length = d → (∀ j, Nml.zl (s.getD j 0) ≤ k) → ∀ q ∈ ns, Nd D L ts n k R s q := by
  induction h with
  | leaf s => exact fun _ _ q hq => by cases hq
  | node s d m LL hd hz hw hn hB ih =>
    intro hs hzs q hq
    subst hs
    obtain ⟨j, hj, h1 | h1⟩ := fl_mem hq
    · subst h1
      refine ⟨by simp, by simp; omega, fun i => ?_, ?_, fun i hi => ?_⟩
      · rw [getD_snoc']
        split
        · exact hz j (by omega)
        · exact hzs i
      · have := hw j hj
        rwa [show (s ++ [nth (ctT D L ts s (n - 1) (n - 1 - s.length) s.length) j]).length = s.length + 1 by simp]
      · rw [getD_snoc', if_neg (by omega)]
    · have h2 := ih j hj (by simp) (fun i => by
        rw [getD_snoc']
        split
        · exact hz j (by omega)
        · exact hzs i) q h1
      have h3 := h2.gt
      simp only [List.length_append, List.length_cons, List.length_nil] at h3
      refine ⟨by omega, h2.le, h2.zl, h2.pt, fun i hi => ?_⟩
      rw [h2.bg i (by simp; omega), getD_snoc', if_neg (by omega)]
/-- q may stand behind p. -/
def Lnk (p q : List Int) : Prop := q.length ≤ p.length + 1 ∧ 0 < q.length ∧ ∀ j, j + 1 < q.length → q.getD j 0 = p.getD j 0
def Chn : List Int → List (List Int) → Prop
  | _, [] => True
  | p, q :: r => Lnk p q ∧ Chn q r
def lastN (p : List Int) : List (List Int) → List Int
  | [] => p
  | q :: r => lastN q r
theorem lastN_mem {p : List Int} : ∀ {l : List (List Int)}, lastN p l = p ∨ lastN p l ∈ l
  | [] => .inl rfl
  | q :: r => by
    rcases lastN_mem (p := q) (l := r) with h | h
    · exact .inr (by show lastN q r ∈ _; rw [h]; exact List.mem_cons_self)
    · exact .inr (List.mem_cons_of_mem _ h)
theorem chn_append {p : List Int} {b : List (List Int)} : ∀ {a : List (List Int)}, Chn p a → Chn (lastN p a) b → Chn p (a ++ b)
  | [], _, h => h
  | q :: r, h, k => ⟨h.1, chn_append (a := r) h.2 k⟩
theorem chn_at {p : List Int} : ∀ {l : List (List Int)}, Chn p l → ∀ i, i < l.length → Lnk (if i = 0 then p else l.getD (i - 1) []) (l.getD i [])
  | [], _, i, hi => absurd hi (Nat.not_lt_zero _)
  | q :: r, h, 0, _ => h.1
  | q :: r, h, i + 1, hi => by
    have := chn_at (p := q) (l := r) h.2 i (by simp at hi; omega)
    rw [if_neg (by omega)]
    show Lnk ((q :: r).getD i []) (r.getD i [])
    cases i with
    | zero => exact this
    | succ i => exact this
theorem Bel.chn {D : List Int} {L : List (List Int)} {ts : List (Int × Int)} {n k : Nat} {R : Rat} {s : List Int} {d : Nat} {ns : List (List Int)} (h : Bel D L ts n k R s d ns) : s.length = d → (∀ j, Nml.zl (s.getD j 0) ≤ k) → Chn s ns := by
  induction h with
  | leaf s => exact fun _ _ => trivial
  | node s d m LL hd hz hw hn hB ih =>
    intro hs hzs
    subst hs
    have key : ∀ m', m' ≤ m → Chn s (fl s (nth (ctT D L ts s (n - 1) (n - 1 - s.length) s.length)) LL m') := by
      intro m'
      induction m' with
      | zero => exact fun _ => trivial
      | succ m' ih' =>
        intro hm'
        have hzn : ∀ i, Nml.zl ((s ++ [nth (ctT D L ts s (n - 1) (n - 1 - s.length) s.length) m']).getD i 0) ≤ k := fun i => by
          rw [getD_snoc']
          split
          · exact hz m' (by omega)
          · exact hzs i
        refine chn_append (ih' (by omega)) ⟨?_, ih m' (by omega) (by simp) hzn⟩
        have hb : s.length ≤ (lastN s (fl s (nth (ctT D L ts s (n - 1) (n - 1 - s.length) s.length)) LL m')).length ∧ ∀ j, j < s.length → (lastN s (fl s (nth (ctT D L ts s (n - 1) (n - 1 - s.length) s.length)) LL m')).getD j 0 = s.getD j 0 := by
          rcases lastN_mem (p := s) (l := fl s (nth (ctT D L ts s (n - 1) (n - 1 - s.length) s.length)) LL m') with h1 | h1
          · rw [h1]; exact ⟨Nat.le_refl _, fun _ _ => rfl⟩
          · obtain ⟨j, hj, h2 | h2⟩ := fl_mem h1
            · rw [h2]
              exact ⟨by simp, fun i hi => by rw [getD_snoc', if_neg (by omega)]⟩
            · have h3 := Bel.mem (hB j (by omega)) (by simp) (fun i => by
                rw [getD_snoc']
                split
                · exact hz j (by omega)
                · exact hzs i) _ h2
              have h4 := h3.gt
              simp only [List.length_append, List.length_cons, List.length_nil] at h4
              exact ⟨by omega, fun i hi => by rw [h3.bg i (by simp; omega), getD_snoc', if_neg (by omega)]⟩
        refine ⟨by simp; omega, by simp, fun j hj => ?_⟩
        simp only [List.length_append, List.length_cons, List.length_nil] at hj
        rw [getD_snoc', if_neg (by omega), hb.2 j (by omega)]
    exact key m (Nat.le_refl _)
end Go.Proofs.YtekghdfbhbhigaaGreatDoor.V
/- A walk through a search tree without recursion: which node comes behind another one. -/
set_option linter.unusedVariables false
set_option maxRecDepth 100000
namespace Go.Proofs.YtekghdfbhbhigaaGreatDoor.V
open Go.RowKit Mt Nml
section
variable (D : List Int) (L : List (List Int)) (ts : List (Int × Int)) (n k : Nat) (R : Rat) (r : Nat)
/-- A suffix within the bound; its centre. -/
def Wi (q : List Int) : Prop := ptT D L ts q (n - 1) q.length ≤ R
def cq_ (q : List Int) : Rat := ctT D L ts q (n - 1) (n - 1 - q.length) q.length
/-- What comes behind a suffix and all below it: no higher than r numbers. -/
inductive Ov : List Int → Option (List Int) → Prop
  | stop (q : List Int) : q.length ≤ r → Ov q none
  | go (q : List Int) (x : Int) : r < q.length + 1 → zl (bhd (cq_ D L ts n q) x) ≤ k → Wi D L ts n R (q ++ [bhd (cq_ D L ts n q) x]) → Ov (q ++ [x]) (some (q ++ [bhd (cq_ D L ts n q) x]))
  | up (q : List Int) (x : Int) (res : Option (List Int)) : r < q.length + 1 → zl (bhd (cq_ D L ts n q) x) ≤ k → ¬ Wi D L ts n R (q ++ [bhd (cq_ D L ts n q) x]) → Ov q res → Ov (q ++ [x]) res
/-- What comes behind a suffix. -/
def Dn (q : List Int) (res : Option (List Int)) : Prop := (q.length < n ∧ zl (nea (cq_ D L ts n q)) ≤ k ∧ Wi D L ts n R (q ++ [nea (cq_ D L ts n q)]) ∧ res = some (q ++ [nea (cq_ D L ts n q)])) ∨ (q.length < n ∧ zl (nea (cq_ D L ts n q)) ≤ k ∧ ¬ Wi D L ts n R (q ++ [nea (cq_ D L ts n q)]) ∧ Ov D L ts n k R r q res) ∨ (¬ q.length < n ∧ Ov D L ts n k R r q res)
/-- These come one behind another, then res. -/
def Rn : List Int → List (List Int) → Option (List Int) → Prop
  | p, [], res => Dn D L ts n k R r p res
  | p, q :: l, res => Dn D L ts n k R r p (some q) ∧ Rn q l res
end
section
variable {D : List Int} {L : List (List Int)} {ts : List (Int × Int)} {n k : Nat} {R : Rat} {r : Nat}
theorem Ov.inv {c : List Int} {res : Option (List Int)} (h : Ov D L ts n k R r c res) : (c.length ≤ r ∧ res = none) ∨ ∃ q x, c = q ++ [x] ∧ r < q.length + 1 ∧ zl (bhd (cq_ D L ts n q) x) ≤ k ∧ ((Wi D L ts n R (q ++ [bhd (cq_ D L ts n q) x]) ∧ res = some (q ++ [bhd (cq_ D L ts n q) x])) ∨ (¬ Wi D L ts n R (q ++ [bhd (cq_ D L ts n q) x]) ∧ Ov D L ts n k R r q res)) := by
  cases h with
  | stop q h => exact .inl ⟨h, rfl⟩
  | go q x h1 h2 h3 => exact .inr ⟨q, x, rfl, h1, h2, .inl ⟨h3, rfl⟩⟩
  | up q x res h1 h2 h3 h4 => exact .inr ⟨q, x, rfl, h1, h2, .inr ⟨h3, h4⟩⟩
theorem rn_append {res : Option (List Int)} {q : List Int} {b : List (List Int)} : ∀ {p : List Int} {a : List (List Int)}, Rn D L ts n k R r p a (some q) → Rn D L ts n k R r q b res → Rn D L ts n k R r p (a ++ q :: b) res
  | p, [], h, k => ⟨h, k⟩
  | p, x :: a, h, k => ⟨h.1, rn_append (p := x) (a := a) h.2 k⟩
theorem Bel.run {s : List Int} {d : Nat} {ns : List (List Int)} (h : Bel D L ts n k R s d ns) : s.length = d → r ≤ d → ∀ {res : Option (List Int)}, Ov D L ts n k R r s res → Rn D L ts n k R r s ns res := by
  induction h with
  | leaf s => exact fun hs hr res ho => .inr (.inr ⟨fun h => by omega, ho⟩)
  | node s d m LL hd hz hw hn hB ih =>
    intro hs hr res ho
    subst hs
    have hwi : ∀ x : Int, Wi D L ts n R (s ++ [x]) ↔ ptT D L ts (s ++ [x]) (n - 1) (s.length + 1) ≤ R := fun x => by unfold Wi; rw [show (s ++ [x]).length = s.length + 1 by simp]
    have hc : cq_ D L ts n s = ctT D L ts s (n - 1) (n - 1 - s.length) s.length := rfl
    have key : ∀ m', m' ≤ m → ∀ res', (m' = 0 → Dn D L ts n k R r s res') → (∀ j, m' = j + 1 → Ov D L ts n k R r (s ++ [nth (ctT D L ts s (n - 1) (n - 1 - s.length) s.length) j]) res') → Rn D L ts n k R r s (fl s (nth (ctT D L ts s (n - 1) (n - 1 - s.length) s.length)) LL m') res' := by
      intro m'
      induction m' with
      | zero => exact fun _ res' h0 _ => h0 rfl
      | succ m' ih' =>
        intro hm' res' _ h1
        refine rn_append (ih' (by omega) _ (fun h0 => ?_) (fun j hj => ?_)) (ih m' (by omega) (by simp) (by omega) (h1 m' rfl))
        · subst h0
          have := (hwi _).2 (hw 0 (by omega))
          have h9 := hz 0 (by omega)
          rw [nth_zero] at this h9 ⊢
          exact .inl ⟨hd, h9, this, rfl⟩
        · subst hj
          have := (hwi _).2 (hw (j + 1) (by omega))
          have h9 := hz (j + 1) (by omega)
          rw [← bhd_nth] at this h9 ⊢
          exact Ov.go s _ (by omega) h9 this
    refine key m (Nat.le_refl _) res (fun h0 => ?_) (fun j hj => ?_)
    · subst h0
      have h9 := hz 0 (by omega)
      rw [nth_zero] at h9
      refine .inr (.inl ⟨hd, h9, fun h => hn ?_, ho⟩)
      rw [nth_zero]
      exact (hwi _).1 h
    · subst hj
      have h9 := hz (j + 1) (by omega)
      rw [← bhd_nth] at h9
      refine Ov.up s _ res (by omega) h9 (fun h => hn ?_) ho
      rw [← bhd_nth]
      exact (hwi _).1 h
/-- Step by step. -/
theorem rn_at {p : List Int} {res : Option (List Int)} : ∀ {l : List (List Int)}, Rn D L ts n k R r p l res → ∀ i, i ≤ l.length → Dn D L ts n k R r (if i = 0 then p else l.getD (i - 1) []) (if i < l.length then some (l.getD i []) else res)
  | [], h, i, hi => by
    have h0 : i = 0 := by simpa using hi
    subst h0
    exact h
  | q :: l, h, 0, _ => h.1
  | q :: l, h, i + 1, hi => by
    have := rn_at (p := q) (l := l) h.2 i (by simpa using hi)
    rw [if_neg (by omega)]
    have e1 : (q :: l).getD (i + 1 - 1) [] = if i = 0 then q else l.getD (i - 1) [] := by
      cases i with
      | zero => rfl
      | succ i => rw [if_neg (by omega)]; rfl
    rw [e1]
    simp only [List.length_cons, Nat.add_lt_add_iff_right]
    exact this
end
end Go.Proofs.YtekghdfbhbhigaaGreatDoor.V
/- Search trees: the children of a suffix. -/
set_option linter.unusedVariables false
set_option linter.unusedSimpArgs false
set_option maxRecDepth 100000
namespace Go.Proofs.YtekghdfbhbhigaaGreatDoor.V
open Go.RowKit Mt Nml
theorem TrS.mono {D : List Int} {L : List (List Int)} {ts : List (Int × Int)} {n k K : Nat} (h : TrS D L ts n k) (hk : k ≤ K) (hK : K ≤ 16777216) : TrS D L ts n K where
  good := h.good
  len := h.len
  twelve := h.twelve
  tl := h.tl
  tp := h.tp
  zt := fun i hi => ⟨Nat.le_trans (h.zt i hi).1 hk, Nat.le_trans (h.zt i hi).2 hk⟩
  zD := fun j => Nat.le_trans (h.zD j) hk
  zL := fun i j => Nat.le_trans (h.zL i j) hk
  hk := hK
end Go.Proofs.YtekghdfbhbhigaaGreatDoor.V
/- A logic of calls: code that holds a label, gone through without a jump to it. -/
set_option linter.unusedVariables false
set_option linter.unusedSimpArgs false
namespace Go.Proofs.YtekghdfbhbhigaaGreatDoor.V
open Go.RowKit
theorem stepR_scope {P : Program} {b : Frame} {a : Act} {k : List Item} {cs : List Frame} {w : World} {c : Code} : step P (lone (b.atR a (.code (.scope c) :: k)) cs w) = .next (lone (b.atR a (.code c :: .inScope c :: k)) cs w) :=
  step_lone_go (by simp [stepG, stepG.exec, Frame.atR])
theorem stepR_inScope {P : Program} {b : Frame} {a : Act} {k : List Item} {cs : List Frame} {w : World} {c : Code} : step P (lone (b.atR a (.inScope c :: k)) cs w) = .next (lone (b.atR a k) cs w) :=
  step_lone_go (by simp [stepG, stepG.exec, Frame.atR])
theorem wpIn_scope {F : Fence} {n : Nat} {P : Program} {Q : Exit → Act → World → Prop} {a : Act} {w : World} {c : Code} (h : c.wpIn F n P (Exit.noGoto Q) a w) : (Code.scope c).wpIn F n P Q a w := by
  intro b k cs hro hb hr
  have h0 : (lone (b.atR a (.code (.scope c) :: k)) cs w).fenced P F := fenced_calm hb hr rfl
  obtain ⟨e, a₁, w₁, hq, harr⟩ := h b (.inScope c :: k) cs hro hb hr
  cases e with
  | normal => exact ⟨.normal, a₁, w₁, hq, .head h0 stepR_scope (StepsIn.trans harr (.one (fenced_calm hb hr rfl) stepR_inScope))⟩
  | exit id' =>
    have hx : exitTo id' (.inScope c :: k) = exitTo id' k := by simp [exitTo]
    exact ⟨.exit id', a₁, w₁, hq, fun k' hk => .head h0 stepR_scope (harr.1 k' (by rw [hx]; exact hk)),
      fun hr' hk => let ⟨k₁, h1, h2⟩ := harr.2 hr' (by rw [hx]; exact hk); ⟨k₁, h1, .head h0 stepR_scope h2⟩⟩
  | goto l => exact hq.elim
  | ret => exact ⟨_, a₁, w₁, hq, .of_steps (.one h0 stepR_scope) harr⟩
  | panic ch => exact ⟨_, a₁, w₁, hq, .of_steps (.one h0 stepR_scope) harr⟩
  | outgrown => exact ⟨_, a₁, w₁, hq, .of_steps (.one h0 stepR_scope) harr⟩
section
variable {P : Program} {Q : Exit → Act → World → Prop} {c : Ctx} {n : Nat} {g : List (Nat × T)} {E : List (Nat × Option Ent)} {x : Code}
theorem tri_scope (h : Tri P x (Exit.noGoto Q) c n g E) : Tri P (.scope x) Q c n g E := fun a w hS => wpIn_scope (h a w hS)
theorem tri_label {l : Nat} (h : PN c n (Q .normal) g E) : Tri P (.label l) Q c n g E := fun a w hS => wpIn_label (h a w hS)
theorem pn_scr (h : PN c n (Q .ret) g E) : PN c n (Exit.noGoto Q .ret) g E := h
theorem pn_sce {id : Nat} (h : PN c n (Q (.exit id)) g E) : PN c n (Exit.noGoto Q (.exit id)) g E := h
end
end Go.Proofs.YtekghdfbhbhigaaGreatDoor.V
/- Search trees: the nodes, in their order. -/
set_option linter.unusedVariables false
set_option linter.unusedSimpArgs false
set_option maxRecDepth 100000
namespace Go.Proofs.YtekghdfbhbhigaaGreatDoor.V
open Go.RowKit Mt Nml
end Go.Proofs.YtekghdfbhbhigaaGreatDoor.V
/- A search tree cut into jobs: one rule, and it comes to an end. -/
set_option linter.unusedVariables false
set_option maxRecDepth 100000
namespace Go.Proofs.YtekghdfbhbhigaaGreatDoor.V
open Go.RowKit Mt Nml
theorem fl_congr {s : List Int} {x : Nat → Int} {LL LL' : Nat → List (List Int)} : ∀ {m : Nat}, (∀ j, j < m → LL j = LL' j) → fl s x LL m = fl s x LL' m
  | 0, _ => rfl
  | m + 1, h => by
    show fl s x LL m ++ _ = fl s x LL' m ++ _
    rw [fl_congr (m := m) fun j hj => h j (by omega), h m (by omega)]
theorem Bel.unique {D : List Int} {L : List (List Int)} {ts : List (Int × Int)} {n k : Nat} {R : Rat} {s : List Int} {d : Nat} {ns : List (List Int)} (h : Bel D L ts n k R s d ns) : ∀ {ns' : List (List Int)}, Bel D L ts n k R s d ns' → ns = ns' := by
  induction h with
  | leaf s =>
    intro ns' h'
    cases h' with
    | leaf => rfl
    | node s2 d2 m LL hd => omega
  | node s d m LL hd hz hw hn hB ih =>
    intro ns' h'
    cases h' with
    | leaf => omega
    | node s2 d2 m' LL' hd' hz' hw' hn' hB' =>
      have hm : m = m' := by
        rcases Nat.lt_trichotomy m m' with h | h | h
        · exact absurd (hw' m h) hn
        · exact h
        · exact absurd (hw m' h) hn'
      subst hm
      exact fl_congr fun j hj => ih j hj (hB' j hj)
section
variable (D : List Int) (L : List (List Int)) (ts : List (Int × Int)) (n k : Nat) (R : Rat)
/-- How many nodes there are below a suffix. -/
noncomputable def cN (q : List Int) : Nat := by
  classical
  exact if h : ∃ ns, Bel D L ts n k R q q.length ns then (Classical.choose h).length else 0
/-- The children of a suffix, the first m. -/
def kdL (q : List Int) (m : Nat) : List (List Int) := (List.range m).map fun j => q ++ [nth (cq_ D L ts n q) j]
/-- That many children of a suffix are nodes; none of their numbers is too long. -/
structure Kd (q : List Int) (m : Nat) : Prop where
  zl : ∀ j, j ≤ m → zl (nth (cq_ D L ts n q) j) ≤ k
  w : ∀ j, j < m → ptT D L ts (q ++ [nth (cq_ D L ts n q) j]) (n - 1) (q.length + 1) ≤ R
  n : ¬ ptT D L ts (q ++ [nth (cq_ D L ts n q) m]) (n - 1) (q.length + 1) ≤ R
/-- The rule: the first open job is cut, t times. -/
inductive JB (many : Nat) : Nat → List (List Int) → List (List Int) → Option (List (List Int) × List (List Int)) → Prop
  | full (t : Nat) (d l : List (List Int)) : many ≤ l.length → JB many t d l (some (d, l))
  | shut (t : Nat) (d l : List (List Int)) : l.length < many → (∀ i, i < l.length → ¬ (l.getD i []).length < n) → JB many t d l (some (d, l))
  | long (t : Nat) (d l : List (List Int)) (i m : Nat) : l.length < many → i < l.length → (l.getD i []).length < n → (∀ j, j < i → ¬ (l.getD j []).length < n) → Wi D L ts n R (l.getD i []) → Kd D L ts n k R (l.getD i []) m → d.length ≤ 100000 → 65536 < m → JB many t d l none
  | cut (t : Nat) (d l : List (List Int)) (i m : Nat) (res : Option (List (List Int) × List (List Int))) : l.length < many → i < l.length → (l.getD i []).length < n → (∀ j, j < i → ¬ (l.getD j []).length < n) → Wi D L ts n R (l.getD i []) → Kd D L ts n k R (l.getD i []) m → d.length ≤ 100000 → m ≤ 65536 →
      JB many t (if (l.getD i []).length = 0 then d else d ++ [l.getD i []]) (l.take i ++ l.drop (i + 1) ++ kdL D L ts n (l.getD i []) m) res → JB many (t + 1) d l res
end
section
variable {D : List Int} {L : List (List Int)} {ts : List (Int × Int)} {n k : Nat} {R : Rat}
theorem JB.inv {many t : Nat} {d l : List (List Int)} {res : Option (List (List Int) × List (List Int))} (h : JB D L ts n k R many t d l res) : (many ≤ l.length ∧ res = some (d, l)) ∨ (l.length < many ∧ (∀ i, i < l.length → ¬ (l.getD i []).length < n) ∧ res = some (d, l)) ∨
    (∃ i m, l.length < many ∧ i < l.length ∧ (l.getD i []).length < n ∧ (∀ j, j < i → ¬ (l.getD j []).length < n) ∧ Wi D L ts n R (l.getD i []) ∧ Kd D L ts n k R (l.getD i []) m ∧ d.length ≤ 100000 ∧ 65536 < m ∧ res = none) ∨
    ∃ t' i m, t = t' + 1 ∧ l.length < many ∧ i < l.length ∧ (l.getD i []).length < n ∧ (∀ j, j < i → ¬ (l.getD j []).length < n) ∧ Wi D L ts n R (l.getD i []) ∧ Kd D L ts n k R (l.getD i []) m ∧ d.length ≤ 100000 ∧ m ≤ 65536 ∧
      JB D L ts n k R many t' (if (l.getD i []).length = 0 then d else d ++ [l.getD i []]) (l.take i ++ l.drop (i + 1) ++ kdL D L ts n (l.getD i []) m) res := by
  cases h with
  | full _ _ _ h => exact .inl ⟨h, rfl⟩
  | shut _ _ _ h1 h2 => exact .inr (.inl ⟨h1, h2, rfl⟩)
  | long _ _ _ i m h1 h2 h3 h4 h5 h6 h7 h8 => exact .inr (.inr (.inl ⟨i, m, h1, h2, h3, h4, h5, h6, h7, h8, rfl⟩))
  | cut t' _ _ i m _ h1 h2 h3 h4 h5 h6 h7 h8 h9 => exact .inr (.inr (.inr ⟨t', i, m, rfl, h1, h2, h3, h4, h5, h6, h7, h8, h9⟩))
theorem cN_eq {q : List Int} {ns : List (List Int)} (h : Bel D L ts n k R q q.length ns) : cN D L ts n k R q = ns.length := by
  unfold cN
  have hex : ∃ ns, Bel D L ts n k R q q.length ns := ⟨ns, h⟩
  rw [dif_pos hex, Bel.unique (Classical.choose_spec hex) h]
/-- A job that may be: numbers of its depth's size, within the bound. -/
structure Gd (D : List Int) (L : List (List Int)) (ts : List (Int × Int)) (n k0 : Nat) (R : Rat) (q : List Int) : Prop where
  le : q.length ≤ n
  zl : ∀ j, zl (q.getD j 0) ≤ k0 + q.length * (k0 + 20)
  wi : Wi D L ts n R q
theorem Gd.nil {k0 : Nat} (hR : 0 ≤ R) : Gd D L ts n k0 R [] := ⟨Nat.zero_le _, fun j => by rw [show (([] : List Int)).getD j 0 = 0 from by simp, zl_zero]; exact Nat.zero_le _, hR⟩
theorem Gd.kids {k0 : Nat} (h : TrS D L ts n k0) (hK : k0 + 12 * (k0 + 20) ≤ k) (hR : Rb R k0) {q : List Int} (g : Gd D L ts n k0 R q) (ho : q.length < n) : ∃ m, Kd D L ts n k R q m ∧ ∀ j, j < m → Gd D L ts n k0 R (q ++ [nth (cq_ D L ts n q) j]) := by
  have hn := h.twelve
  obtain ⟨m, h1, h2, h3⟩ := kids_ex h (s := q) (b := k0 + q.length * (k0 + 20)) (by omega) g.zl ho hR
  have e1 : (q.length + 1) * (k0 + 20) = q.length * (k0 + 20) + (k0 + 20) := Nat.succ_mul _ _
  have e2 : (q.length + 1) * (k0 + 20) ≤ 12 * (k0 + 20) := Nat.mul_le_mul_right _ (by omega)
  refine ⟨m, ⟨fun j hj => by have := h1 j hj; show Nml.zl (nth (ctT D L ts q (n - 1) (n - 1 - q.length) q.length) j) ≤ k; omega, h2, h3⟩, fun j hj => ⟨by simp; omega, fun i => ?_, ?_⟩⟩
  · rw [getD_snoc', show (q ++ [nth (cq_ D L ts n q) j]).length = q.length + 1 by simp]
    split
    · have : Nml.zl (nth (cq_ D L ts n q) j) ≤ _ := h1 j (by omega)
      omega
    · have := g.zl i; omega
  · unfold Wi
    rw [show (q ++ [nth (cq_ D L ts n q) j]).length = q.length + 1 by simp]
    exact h2 j hj
/-- The weight of jobs. -/
noncomputable def wt (D : List Int) (L : List (List Int)) (ts : List (Int × Int)) (n k : Nat) (R : Rat) (l : List (List Int)) : Nat := (l.map fun q => 1 + cN D L ts n k R q).sum
theorem wt_append (a b : List (List Int)) : wt D L ts n k R (a ++ b) = wt D L ts n k R a + wt D L ts n k R b := by simp [wt]
theorem wt_cons (q : List Int) (b : List (List Int)) : wt D L ts n k R (q :: b) = 1 + cN D L ts n k R q + wt D L ts n k R b := by simp [wt]
theorem take_drop_at {l : List (List Int)} {i : Nat} (h : i < l.length) : l = l.take i ++ l.getD i [] :: l.drop (i + 1) := by
  rw [List.getD_eq_getElem?_getD, List.getElem?_eq_getElem h, Option.getD_some, List.getElem_cons_drop, List.take_append_drop]
theorem wt_kids {q : List Int} {m : Nat} {ns : List (List Int)} (hB : Bel D L ts n k R q q.length ns) (ho : q.length < n) (hK : Kd D L ts n k R q m) : wt D L ts n k R (kdL D L ts n q m) = cN D L ts n k R q := by
  rw [cN_eq hB]
  generalize hd : q.length = d at hB
  cases hB with
  | leaf => omega
  | node s2 d2 m' LL hd' hz' hw' hn' hB' =>
    subst hd
    have hm : m = m' := by
      rcases Nat.lt_trichotomy m m' with h | h | h
      · exact absurd (hw' m h) hK.n
      · exact h
      · exact absurd (hK.w m' h) hn'
    subst hm
    have key : ∀ j, j ≤ m → wt D L ts n k R (kdL D L ts n q j) = (fl q (nth (ctT D L ts q (n - 1) (n - 1 - q.length) q.length)) LL j).length := by
      intro j
      induction j with
      | zero => exact fun _ => rfl
      | succ j ih =>
        intro hj
        have e : kdL D L ts n q (j + 1) = kdL D L ts n q j ++ [q ++ [nth (cq_ D L ts n q) j]] := by simp [kdL, List.range_succ]
        have hb := hB' j (by omega)
        rw [show q.length + 1 = (q ++ [nth (ctT D L ts q (n - 1) (n - 1 - q.length) q.length) j]).length by simp] at hb
        have hc := cN_eq hb
        rw [e, wt_append, ih (by omega), fl_len, wt_cons, show cN D L ts n k R (q ++ [nth (cq_ D L ts n q) j]) = _ from hc]
        show _ + (1 + _ + 0) = _
        omega
    exact key m (Nat.le_refl _)
/-- The open jobs: the first a of e numbers, the others of one more. -/
def Ff (n e a : Nat) (l : List (List Int)) : Prop := ∃ A B, l.filter (fun q => decide (q.length < n)) = A ++ B ∧ A.length = a ∧ (∀ q ∈ A, q.length = e) ∧ ∀ q ∈ B, q.length = e + 1
theorem filter_first {l : List (List Int)} {i : Nat} (hi : i < l.length) (ho : (l.getD i []).length < n) (hc : ∀ j, j < i → ¬ (l.getD j []).length < n) : l.filter (fun q => decide (q.length < n)) = l.getD i [] :: (l.drop (i + 1)).filter (fun q => decide (q.length < n)) ∧ (l.take i).filter (fun q => decide (q.length < n)) = [] := by
  have h1 : (l.take i).filter (fun q => decide (q.length < n)) = [] := by
    rw [List.filter_eq_nil_iff]
    intro q hq
    obtain ⟨j, hj, rfl⟩ := List.getElem_of_mem hq
    rw [List.length_take] at hj
    have := hc j (by omega)
    rw [List.getD_eq_getElem?_getD, List.getElem?_eq_getElem (by omega), Option.getD_some] at this
    simpa using this
  refine ⟨?_, h1⟩
  conv => lhs; rw [take_drop_at hi]
  rw [List.filter_append, h1, List.nil_append, List.filter_cons, if_pos (by simpa using ho)]
theorem ff_cut {e a : Nat} {l : List (List Int)} {i m : Nat} (hF : Ff n e a l) (hi : i < l.length) (ho : (l.getD i []).length < n) (hc : ∀ j, j < i → ¬ (l.getD j []).length < n) :
    (0 < a ∧ (l.getD i []).length = e ∧ Ff n e (a - 1) (l.take i ++ l.drop (i + 1) ++ kdL D L ts n (l.getD i []) m)) ∨ (a = 0 ∧ ∃ a', a' < l.length ∧ Ff n (e + 1) a' (l.take i ++ l.drop (i + 1) ++ kdL D L ts n (l.getD i []) m)) := by
  obtain ⟨A, B, h1, h2, h3, h4⟩ := hF
  obtain ⟨f1, f2⟩ := filter_first hi ho hc
  rw [f1] at h1
  have hk : ∀ q ∈ (kdL D L ts n (l.getD i []) m).filter (fun q => decide (q.length < n)), q.length = (l.getD i []).length + 1 := fun q hq => by
    have := (List.mem_filter.1 hq).1
    unfold kdL at this
    obtain ⟨j, _, rfl⟩ := List.mem_map.1 this
    simp
  have hf : (l.take i ++ l.drop (i + 1) ++ kdL D L ts n (l.getD i []) m).filter (fun q => decide (q.length < n)) = (l.drop (i + 1)).filter (fun q => decide (q.length < n)) ++ (kdL D L ts n (l.getD i []) m).filter (fun q => decide (q.length < n)) := by
    rw [List.filter_append, List.filter_append, f2, List.nil_append]
  cases A with
  | cons q A =>
    simp only [List.cons_append, List.cons.injEq] at h1
    obtain ⟨rfl, h1⟩ := h1
    have he := h3 _ List.mem_cons_self
    refine .inl ⟨by rw [← h2]; simp, he, A, B ++ (kdL D L ts n (l.getD i []) m).filter (fun q => decide (q.length < n)), by rw [hf, h1, List.append_assoc], by rw [← h2]; simp, fun q hq => h3 q (List.mem_cons_of_mem _ hq), fun q hq => ?_⟩
    rcases List.mem_append.1 hq with h | h
    · exact h4 q h
    · rw [hk q h, he]
  | nil =>
    simp only [List.nil_append] at h1
    have hlen : ((l.drop (i + 1)).filter (fun q => decide (q.length < n))).length ≤ l.length - (i + 1) := by
      have := List.length_filter_le (fun q : List Int => decide (q.length < n)) (l.drop (i + 1))
      rwa [List.length_drop] at this
    refine .inr ⟨by rw [← h2]; rfl, ((l.drop (i + 1)).filter (fun q => decide (q.length < n))).length, by omega, _, (kdL D L ts n (l.getD i []) m).filter (fun q => decide (q.length < n)), hf, rfl, fun q hq => h4 q (by rw [← h1]; exact List.mem_cons_of_mem _ hq), fun q hq => ?_⟩
    rw [hk q hq, h4 (l.getD i []) (by rw [← h1]; exact List.mem_cons_self)]
/-- It comes to an end. -/
theorem JB.ex {k0 many : Nat} (h : TrS D L ts n k0) (hK : k0 + 12 * (k0 + 20) ≤ k) (hR : Rb R k0) (hmany : many ≤ 4096) : ∀ (T : Nat) (d l : List (List Int)) (e a : Nat), wt D L ts n k R l ≤ T → (∀ q ∈ l, Gd D L ts n k0 R q) → Ff n e a l → e ≤ n → d.length + a ≤ 4096 * (e + 1) → ∃ t res, JB D L ts n k R many t d l res
  | T, d, l, e, a, hT, hG, hF, he, hd => by
    classical
    have hn := h.twelve
    by_cases hl : many ≤ l.length
    · exact ⟨0, _, .full _ _ _ hl⟩
    by_cases hs : ∀ i, i < l.length → ¬ (l.getD i []).length < n
    · exact ⟨0, _, .shut _ _ _ (by omega) hs⟩
    obtain ⟨i, hi, ho, hc⟩ := least_not hs
    have ho' : (l.getD i []).length < n := Classical.not_not.1 ho
    have hmem : l.getD i [] ∈ l := by rw [List.getD_eq_getElem?_getD, List.getElem?_eq_getElem hi]; exact List.getElem_mem hi
    have hg := hG _ hmem
    obtain ⟨m, hk, hgk⟩ := hg.kids h hK hR ho'
    have hd2 : d.length ≤ 100000 := by
      have : 4096 * (e + 1) ≤ 4096 * 13 := Nat.mul_le_mul_left _ (by omega)
      omega
    rcases Nat.lt_or_ge 65536 m with hm | hm
    · exact ⟨0, _, .long _ _ _ i m (by omega) hi ho' hc hg.wi hk hd2 hm⟩
    obtain ⟨ns, hB⟩ := Bel.ex h hK hR (n - (l.getD i []).length) (s := l.getD i []) rfl (by omega) hg.zl
    have hw1 : wt D L ts n k R l = wt D L ts n k R (l.take i) + (1 + cN D L ts n k R (l.getD i []) + wt D L ts n k R (l.drop (i + 1))) := by
      conv => lhs; rw [take_drop_at hi]
      rw [wt_append, wt_cons]
    have hw2 : wt D L ts n k R (l.take i ++ l.drop (i + 1) ++ kdL D L ts n (l.getD i []) m) + 1 = wt D L ts n k R l := by
      rw [wt_append, wt_append, wt_kids hB ho' hk, hw1]; omega
    have hdl : (if (l.getD i []).length = 0 then d else d ++ [l.getD i []]).length ≤ d.length + 1 := by
      split
      · omega
      · simp
    have hG2 : ∀ q ∈ l.take i ++ l.drop (i + 1) ++ kdL D L ts n (l.getD i []) m, Gd D L ts n k0 R q := fun q hq => by
      rcases List.mem_append.1 hq with hq | hq
      · rcases List.mem_append.1 hq with hq | hq
        · exact hG q (List.mem_of_mem_take hq)
        · exact hG q (List.mem_of_mem_drop hq)
      · unfold kdL at hq
        obtain ⟨j, hj, rfl⟩ := List.mem_map.1 hq
        exact hgk j (by simpa using hj)
    have hT1 : 0 < T := by omega
    rcases ff_cut (D := D) (L := L) (ts := ts) (m := m) hF hi ho' hc with ⟨ha, hle, hF2⟩ | ⟨ha, a', ha', hF2⟩
    · obtain ⟨t, res, hJ⟩ := JB.ex h hK hR hmany (T - 1) (if (l.getD i []).length = 0 then d else d ++ [l.getD i []]) _ e (a - 1) (by omega) hG2 hF2 he (by omega)
      exact ⟨t + 1, res, .cut _ _ _ i m _ (by omega) hi ho' hc hg.wi hk hd2 hm hJ⟩
    · have he2 : e + 1 ≤ n := by
        obtain ⟨A, B, h1, h2, h3, h4⟩ := hF
        obtain ⟨f1, _⟩ := filter_first hi ho' hc
        rw [f1] at h1
        have hA : A = [] := List.eq_nil_of_length_eq_zero (by omega)
        subst hA
        have := h4 (l.getD i []) (by rw [List.nil_append] at h1; rw [← h1]; exact List.mem_cons_self)
        omega
      obtain ⟨t, res, hJ⟩ := JB.ex h hK hR hmany (T - 1) (if (l.getD i []).length = 0 then d else d ++ [l.getD i []]) _ (e + 1) a' (by omega) hG2 hF2 he2 (by
        have : 4096 * (e + 1 + 1) = 4096 * (e + 1) + 4096 := Nat.mul_succ _ _
        omega)
      exact ⟨t + 1, res, .cut _ _ _ i m _ (by omega) hi ho' hc hg.wi hk hd2 hm hJ⟩
termination_by T => T
end
section
variable (D : List Int) (L : List (List Int)) (ts : List (Int × Int)) (n k : Nat) (R : Rat) (many : Nat)
end
end Go.Proofs.YtekghdfbhbhigaaGreatDoor.V
/- The law of filters is awake. -/
set_option linter.unusedVariables false
set_option linter.unusedSimpArgs false
set_option maxRecDepth 100000
namespace Go.Proofs.YtekghdfbhbhigaaGreatDoor.V
open Go.RowKit Mt Nml
theorem z_st {z : Int} {k : Nat} (h : zl z ≤ k) : (T.st [T.c (.bool (decide (z < 0))), T.l cU (dig z.natAbs)]).le (T.Z z k) := fun β u v r => ⟨(), h, r⟩
end Go.Proofs.YtekghdfbhbhigaaGreatDoor.V
/- A logic of calls: slices without room behind them, and rows that one may append to. -/
set_option linter.unusedVariables false
set_option linter.unusedSimpArgs false
namespace Go.Proofs.YtekghdfbhbhigaaGreatDoor.V
open Go.RowKit
/-- A slice that stands, without room behind it. -/
def T.lx {α : Type} (c : Cod α) (l : List α) : T := ⟨[], 1, false, fun _ u v => (T.l c l).rep B0 u v ∧ ∃ A, v = .slice A l.length l.length,
  fun ⟨_, A, e⟩ _ => by subst e; exact ⟨⟨rfl, rfl⟩, rfl⟩, fun hs ⟨h1, h2⟩ => ⟨(T.l c l).mono hs h1, h2⟩, fun _ h => h⟩
/-- A row of one's own, or a slice without room. -/
def Ent.ap {α : Type} (c : Cod α) (e : TypeId) (l : List α) : Ent := ⟨[], fun β u w v F => (Ent.row c e l).hold β u w v F ∨ ((∀ k, ¬ F k) ∧ (T.lx c l).rep B0 u v),
  fun hs h => by
    rcases h with h | ⟨h1, h2⟩
    · exact .inl ((Ent.row c e l).mono hs h)
    · exact .inr ⟨h1, (T.lx c l).mono hs h2⟩, fun _ h => h, fun hl h => by
    rcases h with h | ⟨h1, h2⟩
    · exact .inl ((Ent.row c e l).loc hl h)
    · exact .inr ⟨h1, h2⟩⟩
section
variable {α : Type} {c : Cod α} {P : Program} {u w : World} {t e : TypeId} {bytes : Nat}
/-- append to a slice without room. -/
theorem run_append_x (hT : SlT P t e c.sz bytes) {v y : Value} {l ys : List α} {ty : TypeId} (hx : (T.lx c l).rep B0 u v) (hy : (T.l c ys).rep B0 u y) (hs : Sub u w) (hb : (l.length + ys.length) * bytes ≤ 140737488355328) (h0 : 0 < bytes) :
    (ys = [] ∧ (Builtin.append_ #[t, t] ty #[v, y]).run P w = .ok v w) ∨
    ∃ v' w', (Builtin.append_ #[t, t] ty #[v, y]).run P w = .ok v' w' ∧ (∃ xs', w'.ownsRow 0 e c.sz v' (l ++ ys).length xs' ∧ Els c (l ++ ys) u xs') ∧ w.grownBy w' none ∧ v'.ownBlock = some w.heap.size ∧ ∃ A n k, v' = .slice A n k := by
  obtain ⟨ht, inf, z, hi, hz0, hz1, hz2, hzc⟩ := hT.info
  obtain ⟨⟨A0, n0, k0, ev0, q1, q2, q3, q4⟩, A, ev⟩ := hx
  rw [ev] at ev0
  cases ev0
  obtain ⟨B, m, cap, ey, hm, hmk, hcap, hcell⟩ := hy
  subst ey
  rcases Nat.eq_zero_or_pos m with h | h
  · subst h
    have hys : ys = [] := List.eq_nil_of_length_eq_zero hm
    subst hys
    refine .inl ⟨rfl, ?_⟩
    subst ev
    cases A0 <;> cases B <;> simp [Builtin.append_, run_underlying ht, sizeOf, typeInfo, hi, Builtin.lenOf, Builtin.firstCells, storeCells, loadCells, loadCellsFrom]
  · obtain ⟨ad, ea, zs, hEy, hst⟩ := hcell h
    subst ea
    have hmx : l.length + m ≤ maxLen := by
      have := Nat.le_trans (Nat.le_mul_of_pos_right _ h0) hb
      unfold maxLen; omega
    have h63 : l.length + m ≤ 9223372036854775807 := by unfold maxLen at hmx; omega
    have hzl : zs.length = m * inf.size := by rw [hEy.len, hm, hz1]
    have grown : ∀ (old : Nat) (xs : List Value), xs.length = l.length * inf.size → Els c l u xs →
      (∃ xs', (w.drew.alloc (.cells (xs.toArray ++ zs.toArray ++ Builtin.zeroCells z.cells (grownCap w (l.length + m) old e - (l.length + m))) e)).ownsRow 0 e c.sz
        (.slice (some ⟨w.heap.size, 0, none⟩) (l.length + m) (grownCap w (l.length + m) old e)) (l ++ ys).length xs' ∧ Els c (l ++ ys) u xs') ∧
      w.grownBy (w.drew.alloc (.cells (xs.toArray ++ zs.toArray ++ Builtin.zeroCells z.cells (grownCap w (l.length + m) old e - (l.length + m))) e)) none := by
      intro old xs hxl hE
      have hge := grownCap_ge w (l.length + m) old e
      have hcm : grownCap w (l.length + m) old e ≤ maxLen := grownCap_le_maxLen w (l.length + m) old e hmx
      have hlen : (xs ++ zs).length = (l.length + m) * c.sz := by rw [List.length_append, hxl, hzl, hz1, Nat.add_mul]
      rw [List.length_append, hm]
      refine ⟨⟨xs ++ zs, ⟨hlen, .inr ⟨w.heap.size, _, _, rfl, Nat.zero_le _, heap_alloc_new w.drew _, hge, hcm, ?_, ?_⟩⟩, hE.append hEy⟩, ⟨rfl, rfl, rfl, by simp, fun k hk _ => Go.heap_alloc_old w.drew _ hk⟩⟩
      · simp only [Array.size_append, List.size_toArray, size_zeroCells, hzc, hxl, hzl, hz1, ← Nat.add_mul]
        congr 1
        omega
      · simp only [Array.toList_append, List.append_assoc]
        rw [← List.append_assoc, ← hlen]
        exact List.take_left
    refine .inr ?_
    have hnews : ∀ j y, zs[j]? = some y → w.cell? (ad.add j) = some y := fun j y hy => hs _ _ (hst j y hy)
    subst ev
    cases A0 with
    | none =>
      have hl : l = [] := by
        cases l with
        | nil => rfl
        | cons a r => obtain ⟨ad, h, _⟩ := q4 (by simp); cases h
      subst hl
      have hr := run_append_nil (P := P) w t ty e inf z ht hi hz0 ad m cap zs hzl hnews h (by omega) (by rw [hz2]; have hb := hb; simp only [List.length_nil, Nat.zero_add] at hb; rw [hm] at hb; omega)
      have hg := grown 0 [] (by simp) rfl
      simp only [List.length_nil, Nat.zero_add, List.nil_append, Array.empty_append] at hg ⊢
      exact ⟨_, _, hr, hg.1, hg.2, rfl, _, _, _, rfl⟩
    | some b =>
      rcases Nat.eq_zero_or_pos l.length with hl | hl
      · have hl' : l = [] := List.eq_nil_of_length_eq_zero hl
        subst hl'
        have hr := run_append_grow (P := P) w t ty e inf z ht hi hz0 b 0 0 [] (by simp) (fun j v h => by simp at h) ad m cap zs hzl hnews (by omega) (by omega) (growslice_fits (by omega) (by rw [hz2]; rw [hm] at hb; simpa using hb))
        have hg := grown 0 [] (by simp) rfl
        exact ⟨_, _, hr, hg.1, hg.2, rfl, _, _, _, rfl⟩
      · obtain ⟨ad', e1, xs, hE, hst'⟩ := q4 hl
        cases e1
        have hr := run_append_grow (P := P) w t ty e inf z ht hi hz0 b l.length l.length xs (by rw [hE.len, hz1]) (fun j v h => hs _ _ (hst' j v h)) ad m cap zs hzl hnews (by omega) (by omega) (growslice_fits (by omega) (by rw [hz2, ← hm]; exact hb))
        have hg := grown l.length xs (by rw [hE.len, hz1]) hE
        exact ⟨_, _, hr, hg.1, hg.2, rfl, _, _, _, rfl⟩
end
section
variable {P : Program} {ops : Array Oper} {fin : List OpS → List (Nat × T) → List (Nat × Option Ent) → Prop} {r : List Oper} {H : List OpS} {g : List (Nat × T)} {E : List (Nat × Option Ent)} {o : Oper}
variable {t : Option Nat} {ty : TypeId} {ps : String} {af : Array Edge} {gd : Option (Nat × Bool)} {x y : Operand} {X Y : T} {e off m n : Nat} {b : Bool} {et : TypeId}
variable {α : Type} {c : Cod α} {xs ys : List α}
/-- xs[:hi:hi] of a slice that stands. -/
theorem sh3x {hi : Nat} {zh zm : Operand} {b' d' : Int} {kk' kk2 : IntKind} {τ : TypeId} {bytes : Nat} [hl : IsI X c xs] (hX : envl g x = some X) (hT : SlT P et τ c.sz bytes) (hhi : envl g zh = some (T.c (.int kk' b'))) (hmx : envl g zm = some (T.c (.int kk2 d'))) (hh : b' = (hi : Int) ∧ d' = (hi : Int) ∧ hi ≤ xs.length) (hn : J P ops fin r (OpS.p (T.lx c (xs.take hi)) :: H) (putg t (T.lx c (xs.take hi)) g) E) (hg : GuardIs ops g ⟨t, .slice et x none (some zh) (some zm), ty, ps, af, gd⟩ true := by exact gd0) : J P ops fin (⟨t, .slice et x none (some zh) (some zm), ty, ps, af, gd⟩ :: r) H g E :=
  j_val hg (ok_pure fun ρ β u w F hs he hH => by
    obtain ⟨rfl, rfl, h2⟩ := hh
    have hx := (T.l c xs).ext (β' := B0) (fun _ h => by cases h) (hl.le _ _ _ (he x (by simp [Op.operands]) _ hX))
    have hz : ρ zh = _ := he zh (by simp [Op.operands]) _ hhi
    have hz2 : ρ zm = _ := he zm (by simp [Op.operands]) _ hmx
    obtain ⟨A, n, k, ev, e1, e2, e3, e4⟩ := id hx
    obtain ⟨ht, inf, z, hi', hz0, hz1, hz2', hzc⟩ := hT.info
    have a2 : (0 : Int) ≤ hi ∧ (hi : Int) ≤ k := by omega
    have a3 : hi ≤ k := by omega
    rw [ev] at hx
    have := cut_rep (lo := 0) (B := A) hx (Nat.zero_le _) h2 (fun _ => by cases A <;> simp [Addr.add])
    obtain ⟨A', n', k', eq, q1, q2, q3, q4⟩ := this
    simp only [Nat.sub_zero] at eq
    cases eq
    have hlen : (xs.take hi).length = hi := by rw [List.length_take]; omega
    refine ⟨.slice A hi hi, ?_, ⟨A, hi, hi, rfl, q1, Nat.le_refl _, by omega, q4⟩, A, by rw [hlen]⟩
    simp [execOp, ev, hz, hz2, Instr.sliceAt, Instr.slice, run_underlying ht, Instr.sliceBounds, Instr.sliceBound, asIntOf, a2, a3, sizeOf, typeInfo, hi']
    cases A <;> simp [Addr.add]) hn
/-- append to a slice without room: one may append to what comes. -/
theorem apx {τ : TypeId} {bytes : Nat} (e' : Nat) [hl : IsL Y c ys] (hX : envl g x = some (T.lx c xs)) (hY : envl g y = some Y) (hT : SlT P et τ c.sz bytes) (hb : (xs.length + ys.length) * bytes ≤ 140737488355328) (h0 : 0 < bytes)
    (hn : J P ops fin r (⟨[], [], [(e', Ent.ap c τ (xs ++ ys))], [e'], T.o e'⟩ :: H) (putg t (T.o e') g) ((e', some (Ent.ap c τ (xs ++ ys))) :: E)) (hg : GuardIs ops g ⟨t, .call ⟨.builtin .append, #[x, y], #[et, et]⟩, ty, ps, af, gd⟩ true := by exact gd0) : J P ops fin (⟨t, .call ⟨.builtin .append, #[x, y], #[et, et]⟩, ty, ps, af, gd⟩ :: r) H g E :=
  j_new hg (fun ρ β u w F hs he hH => by
    have hx := he x (by simp [Op.operands, Call.operands]) _ hX
    have hy := (T.l c ys).ext (β' := B0) (fun _ h => by cases h) (hl.le _ _ _ (he y (by simp [Op.operands, Call.operands]) _ hY))
    rcases run_append_x (ty := ty) (u := u) (w := w) hT hx hy hs hb h0 with ⟨hys, hr⟩ | ⟨v', w', hr, ho, hgw, hv, hsl⟩
    · subst hys
      unfold Res
      simp only [execOp, resolve, invoke, builtin, Sem.run_bind, Sem.run_pure, Result.andThen_ok, List.map_toArray, List.map_cons, List.map_nil, hr]
      obtain ⟨A, ev⟩ := hx.2
      refine ⟨u, setE β e' (ρ x), fun _ _ => False, fun f hf => setE_ne _ _ (by simpa using hf), Tr.refl hs, hold1 (.inr ⟨fun _ h => h, ?_⟩) (fun k h => h.elim), fun f X k _ h => h.elim, (setE_same _ _ _).symm, A, _, _, ev⟩
      rw [setE_same, List.append_nil]
      exact hx
    · unfold Res
      simp only [execOp, resolve, invoke, builtin, Sem.run_bind, Sem.run_pure, Result.andThen_ok, List.map_toArray, List.map_cons, List.map_nil, hr]
      obtain ⟨u', β', F', k1, k2, k3, k4, k5⟩ := after_newrow (c := c) (l' := xs ++ ys) (β := β) (F := F) (e' := e') hs hgw ho (.inr hv) hsl
      refine ⟨u', β', F', k1, k2, hold1 (.inl (k3.hold e' _ lk1_same)) (fun k hk => k3.dead e' _ k lk1_same hk), fun f X k hX hk => ?_, k5⟩
      rw [lk_cons] at hX
      by_cases hf : e' = f
      · subst hf; exact k4 e' _ k lk1_same hk
      · rw [if_neg hf] at hX; cases hX) hn
end
section
variable {P : Program} {Q : Exit → Act → World → Prop} {n : Nat} {ctx : Ctx} {g : List (Nat × T)} {E : List (Nat × Option Ent)} {x : Code} {α : Type} {c : Cod α} {l : List α} {τ : TypeId}
/-- It is one or the other. -/
theorem tri_ap (e : Nat) (hE : lkE E e = some (Ent.ap c τ l)) (h1 : Tri P x Q ctx n g ((e, some (Ent.row c τ l)) :: E)) (h2 : Tri P x Q ctx n g ((e, some (Ent.frz c l)) :: E)) : Tri P x Q ctx n g E := fun a w hS => by
  obtain ⟨β, u, F, q1, q2, q3, q4, q5, q6, q7⟩ := hS
  have mk : ∀ Y : Ent, Y.hold β u w (β e) (F e) → InSt ctx n g ((e, some Y) :: E) a w := fun Y hY => by
    have old : ∀ f X, lkE ((e, some Y) :: E) f = some X → ∃ Z, lkE E f = some Z ∧ (f = e ∧ X = Y ∨ f ≠ e ∧ X = Z) := fun f X hX => by
      rw [lkE_cons] at hX
      by_cases hf : e = f
      · rw [if_pos hf] at hX; cases hX; exact ⟨_, hf ▸ hE, .inl ⟨hf.symm, rfl⟩⟩
      · rw [if_neg hf] at hX; exact ⟨_, hX, .inr ⟨Ne.symm hf, rfl⟩⟩
    refine ⟨β, u, F, q1, q2, q3, ⟨fun f X hX => ?_, fun f X k hX hk => ?_, fun f f' X X' k hX hX' hne hk => ?_⟩, q5, fun f X k hX hk => ?_, q7⟩
    · obtain ⟨Z, hZ, ⟨rfl, rfl⟩ | ⟨hf, rfl⟩⟩ := old f X hX
      · exact hY
      · exact q4.hold f _ hZ
    · obtain ⟨Z, hZ, _⟩ := old f X hX
      exact q4.dead f Z k hZ hk
    · obtain ⟨Z, hZ, _⟩ := old f X hX
      obtain ⟨Z', hZ', _⟩ := old f' X' hX'
      exact q4.apart f f' Z Z' k hZ hZ' hne hk
    · obtain ⟨Z, hZ, _⟩ := old f X hX
      exact q6 f Z k hZ hk
  rcases q4.hold e _ hE with hr | ⟨hF, hx⟩
  · exact h1 a w (mk _ hr)
  · exact h2 a w (mk _ ⟨hF, hx.1⟩)
theorem tri_fza (e : Nat) (hE : lkE E e = some (Ent.ap c τ l)) (h : Tri P x Q ctx n g ((e, some (Ent.frz c l)) :: E)) : Tri P x Q ctx n g E :=
  tri_ap e hE (tri_fz e (by rw [lkE_cons, if_pos rfl]) (fun a w hS => h a w (hS.congr fun f => by
    rw [lkE_cons, lkE_cons (e := e) (X := some (Ent.frz c l)) (E := (e, _) :: E), lkE_cons]
    by_cases hf : e = f
    · rw [if_pos hf, if_pos hf]
    · rw [if_neg hf, if_neg hf, if_neg hf]))) h
end
theorem lkE_append (A B : List (Nat × Option Ent)) (f : Nat) : lkE (A ++ B) f = if f ∈ A.map (·.1) then lkE A f else lkE B f := by
  induction A with
  | nil => simp
  | cons p r ih =>
    obtain ⟨e, X⟩ := p
    rw [List.cons_append, lkE_cons, lkE_cons, ih]
    by_cases h : e = f
    · subst h; simp
    · rw [if_neg h, if_neg h]
      by_cases h2 : f ∈ r.map (·.1)
      · rw [if_pos h2, if_pos (by simp only [List.map_cons, List.mem_cons]; exact .inr h2)]
      · rw [if_neg h2, if_neg (by simp only [List.map_cons, List.mem_cons, not_or]; exact ⟨fun h3 => h h3.symm, h2⟩)]
/-- What is one's own behind a call that takes Ei and leaves Eo. -/
def aftE (Ei Eo : List (Nat × Ent)) (E : List (Nat × Option Ent)) : List (Nat × Option Ent) := somes Eo ++ ((Names Ei).map (fun e => (e, none)) ++ E)
theorem aftE_upd {Ei Eo : List (Nat × Ent)} {E : List (Nat × Option Ent)} {N : List Nat} {X : T} (f : Nat) : lkE (aftE Ei Eo E) f = OpS.upd ⟨[], Names Ei, Eo, N, X⟩ f (lkE E f) := by
  unfold aftE OpS.upd
  rw [lkE_append, lkE_append, lkE_somes]
  have h1 : (f ∈ (somes Eo).map (·.1)) ↔ f ∈ Names Eo := by simp [somes, Names]
  by_cases h : f ∈ Names Eo
  · rw [if_pos (h1.2 h)]
    cases hk : lk Eo f with
    | some Y => rfl
    | none =>
      exfalso
      have : ∀ l : List (Nat × Ent), f ∈ Names l → lk l f ≠ none := by
        intro l
        induction l with
        | nil => intro h; cases h
        | cons p r ih =>
          obtain ⟨e, Z⟩ := p
          intro hm
          rw [lk_cons]
          by_cases he : e = f
          · rw [if_pos he]; simp
          · rw [if_neg he]
            refine ih ?_
            simp only [Names, List.map_cons, List.mem_cons] at hm
            rcases hm with hm | hm
            · exact absurd hm.symm he
            · exact hm
      exact this Eo h hk
  · rw [if_neg (fun h2 => h (h1.1 h2)), lk_names h]
    show _ = if (Names Ei).contains f then none else lkE E f
    have h2 : ((Names Ei).map (fun e => ((e, none) : Nat × Option Ent))).map (·.1) = Names Ei := by rw [List.map_map]; exact List.map_id' _
    rw [h2]
    by_cases h3 : f ∈ Names Ei
    · rw [if_pos h3, if_pos (by simpa using h3)]
      have : ∀ l : List Nat, lkE (l.map (fun e => ((e, none) : Nat × Option Ent))) f = none := by
        intro l
        induction l with
        | nil => rfl
        | cons e r ih =>
          rw [List.map_cons, lkE_cons]
          split
          · rfl
          · exact ih
      exact this _
    · rw [if_neg h3, if_neg (by simpa using h3)]
section
variable {P : Program} {ops : Array Oper} {fin : List OpS → List (Nat × T) → List (Nat × Option Ent) → Prop} {r : List Oper} {H : List OpS} {g : List (Nat × T)} {E : List (Nat × Option Ent)} {o : Oper}
variable {t : Option Nat} {ty : TypeId} {ps : String} {af : Array Edge} {gd : Option (Nat × Bool)} {x y : Operand} {X Y : T}
theorem hold_sub {β : Env} {u w : World} {F : FP} {Ei : List (Nat × Ent)} {A : Nat → Option Ent} (hH : Hold β u w F A) (h : ∀ e X, lk Ei e = some X → ∃ Y, A e = some Y ∧ Y.le X) : Hold β u w F (lk Ei) :=
  ⟨fun e X hX => let ⟨Y, h1, h2⟩ := h e X hX; h2 _ _ _ _ _ (hH.hold e Y h1), fun e X k hX hk => let ⟨Y, h1, _⟩ := h e X hX; hH.dead e Y k h1 hk, fun e f X X' k hX hX' hne hk => let ⟨Y, h1, _⟩ := h e X hX; let ⟨Y', h1', _⟩ := h f X' hX'; hH.apart e f Y Y' k h1 h1' hne hk⟩
theorem j_ent {Ei Eo : List (Nat × Ent)} {N : List Nat} {R : T} (hE : SubE (somes Ei) E) (hg : GuardIs ops g o true) (h : OpOk P o (envl g) (lk Ei) ⟨[], Names Ei, Eo, N, R⟩) (hn : J P ops fin r (⟨[], Names Ei, Eo, N, R⟩ :: H) (putg o.dst R g) (aftE Ei Eo E)) : J P ops fin (o :: r) H g E := by
  have hsub : ∀ e X, lk Ei e = some X → ∃ Y, lkE E e = some Y ∧ Y.le X := fun e X hX => subE_lk hE (by rw [lkE_somes]; exact hX)
  have hnm : ∀ e ∈ Names Ei, ∃ X, lk Ei e = some X := fun e he => by
    cases hk : lk Ei e with
    | some X => exact ⟨X, rfl⟩
    | none =>
      exfalso
      have : ∀ l : List (Nat × Ent), e ∈ Names l → lk l e ≠ none := by
        intro l
        induction l with
        | nil => intro h; cases h
        | cons p r ih =>
          obtain ⟨f, Z⟩ := p
          intro hm
          rw [lk_cons]
          by_cases he : f = e
          · rw [if_pos he]; simp
          · rw [if_neg he]
            refine ih ?_
            simp only [Names, List.map_cons, List.mem_cons] at hm
            rcases hm with hm | hm
            · exact absurd hm.symm he
            · exact hm
      exact this Ei he hk
  refine ⟨⟨[], Names Ei, Eo, N, R⟩, aftE Ei Eo E, .inl ⟨hg, fun f hf => ?_, ?_⟩, fun f => aftE_upd f, hn⟩
  · obtain ⟨X, hX⟩ := hnm f hf
    obtain ⟨Y, hY, _⟩ := hsub f X hX
    exact ⟨Y, hY⟩
  · intro ρ β u w F hs he hH
    refine h ρ β u w F hs he (hold_sub hH fun e X hX => ?_)
    obtain ⟨Y, hY, hl⟩ := hsub e X hX
    have hm : e ∈ Names Ei := by
      have := lk_mem hX
      simp only [Names, List.mem_map]
      exact ⟨_, this, rfl⟩
    exact ⟨Y, by simp only [List.nil_append]; rw [if_pos hm]; exact hY, hl⟩
end
section
variable {P : Program} {x : Code} {Q : Exit → Act → World → Prop} {ctx : Ctx} {n : Nat} {g : List (Nat × T)} {E : List (Nat × Option Ent)}
end
end Go.Proofs.YtekghdfbhbhigaaGreatDoor.V
/- A tree cut into jobs: the queue. -/
set_option linter.unusedVariables false
set_option linter.unusedSimpArgs false
set_option maxRecDepth 100000
namespace Go.Proofs.YtekghdfbhbhigaaGreatDoor.V
open Go.RowKit Mt Nml
theorem ci_b {a b : Bool} (h : a = b) : (T.c (.bool a)).le (T.c (.bool b)) := .of (by rw [h])
/-- Jobs, told by their roots. -/
def cJ (k : Nat) : Cod (List Int) := ⟨fun q => T.st [T.l (cZ k) q], 1, [], fun _ => rfl, fun _ => rfl, by decide⟩
instance (k : Nat) (q : List Int) : Sp ((cJ k).X q) [T.l (cZ k) q] := ⟨.refl _⟩

end Go.Proofs.YtekghdfbhbhigaaGreatDoor.V
/- A tree cut into jobs: Jobs. -/
set_option linter.unusedVariables false
set_option linter.unusedSimpArgs false
set_option maxRecDepth 100000
namespace Go.Proofs.YtekghdfbhbhigaaGreatDoor.V
open Go.RowKit Mt Nml
end Go.Proofs.YtekghdfbhbhigaaGreatDoor.V
/- A tree cut into jobs: the document's Jobs. -/
set_option linter.unusedVariables false
set_option linter.unusedSimpArgs false
set_option maxRecDepth 100000
namespace Go.Proofs.YtekghdfbhbhigaaGreatDoor.V
open Go.RowKit Mt Nml
end Go.Proofs.YtekghdfbhbhigaaGreatDoor.V
/- Search trees: what a node begins with is a node. -/
set_option linter.unusedVariables false
set_option linter.unusedSimpArgs false
set_option maxRecDepth 100000
namespace Go.Proofs.YtekghdfbhbhigaaGreatDoor.V
open Go.RowKit Mt Nml
theorem take_atN {l : List (List Int)} {i m : Nat} (h : i < (l.take m).length) : (l.take m).getD i [] = l.getD i [] := by
  rw [List.length_take] at h
  simp only [List.getD_eq_getElem?_getD, List.getElem?_take]
  rw [if_pos (by omega)]
theorem getD_mem' {l : List (List Int)} {i : Nat} (h : i < l.length) : l.getD i [] ∈ l := by
  rw [List.getD_eq_getElem?_getD, List.getElem?_eq_getElem h]
  exact List.getElem_mem h
/-- What is so of each of the first nodes. -/
theorem Bel.first {D : List Int} {L : List (List Int)} {ts : List (Int × Int)} {n k mo : Nat} {R : Rat} {ns : List (List Int)} (h : Bel D L ts n k R [] 0 ns) {i : Nat} (hi : i < (ns.take mo).length) : Nd D L ts n k R [] ((ns.take mo).getD i []) ∧ Lnk (if i = 0 then [] else (ns.take mo).getD (i - 1) []) ((ns.take mo).getD i []) := by
  have hz : ∀ j, Nml.zl (([] : List Int).getD j 0) ≤ k := fun j => by rw [show (([] : List Int)).getD j 0 = 0 from by simp, zl_zero]; exact Nat.zero_le _
  have hl : i < ns.length := by rw [List.length_take] at hi; omega
  have h1 := h.mem rfl hz _ (getD_mem' hl)
  have h2 := chn_at (h.chn rfl hz) i hl
  rw [take_atN hi]
  refine ⟨h1, ?_⟩
  split
  · rename_i h0
    subst h0
    exact h2
  · rename_i h0
    rw [take_atN (by omega)]
    rwa [if_neg h0] at h2
end Go.Proofs.YtekghdfbhbhigaaGreatDoor.V
/- A tree cut into jobs: the law. -/
set_option linter.unusedVariables false
set_option linter.unusedSimpArgs false
set_option maxRecDepth 100000
namespace Go.Proofs.YtekghdfbhbhigaaGreatDoor.V
open Go.RowKit Mt Nml
end Go.Proofs.YtekghdfbhbhigaaGreatDoor.V
/- A search tree cut into jobs: no root begins another one. -/
set_option linter.unusedVariables false
set_option maxRecDepth 100000
namespace Go.Proofs.YtekghdfbhbhigaaGreatDoor.V
open Go.RowKit Mt Nml
/-- b begins with a. -/
def Bgn (a b : List Int) : Prop := a.length ≤ b.length ∧ ∀ j, j < a.length → a.getD j 0 = b.getD j 0
theorem Bgn.cut {q r : List Int} {x : Int} (h : Bgn (q ++ [x]) r) : Bgn q r := by
  obtain ⟨h1, h2⟩ := h
  simp only [List.length_append, List.length_cons, List.length_nil] at h1 h2
  refine ⟨by omega, fun j hj => ?_⟩
  rw [← h2 j (by omega), getD_snoc', if_neg (by omega)]
theorem Bgn.snoc {q r : List Int} {x : Int} (h : Bgn r (q ++ [x])) : Bgn r q ∨ Bgn q r := by
  obtain ⟨h1, h2⟩ := h
  simp only [List.length_append, List.length_cons, List.length_nil] at h1
  rcases Nat.lt_or_ge q.length r.length with hl | hl
  · exact .inr ⟨by omega, fun j hj => by rw [h2 j (by omega), getD_snoc', if_neg (by omega)]⟩
  · exact .inl ⟨hl, fun j hj => by rw [h2 j hj, getD_snoc', if_neg (by omega)]⟩
end Go.Proofs.YtekghdfbhbhigaaGreatDoor.V
/- A tree cut into jobs: no root begins another one. -/
set_option linter.unusedVariables false
set_option linter.unusedSimpArgs false
set_option maxRecDepth 100000
namespace Go.Proofs.YtekghdfbhbhigaaGreatDoor.V
open Go.RowKit Mt Nml
end Go.Proofs.YtekghdfbhbhigaaGreatDoor.V
