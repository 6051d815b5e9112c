/- Contracts of the document: whole numbers, fractions. -/
import Derived.Test.YtlmiadjogdfjkaaK5
set_option linter.unusedVariables false
set_option linter.unusedSimpArgs false
set_option maxRecDepth 100000
namespace Go.Proofs.Ytlmiadjogdfjkaa.V
open Go.RowKit Mt Nml
theorem rmT {N k : Nat} (hk : lim N ≤ k) : (T.st [T.c (.bool (decide ((0 : Int) < ((dig N).length : Int)))), T.l cU (dig N)]).le (T.Z (intv true N) k) := by
  rcases Nat.eq_zero_or_pos N with h | h
  · subst h
    rw [dig_zero]
    have e := z_of (s := false) (z := intv true 0) (k := k) rfl (by rw [zl_intv, lim_zero]; omega)
    rw [show (intv true 0).natAbs = 0 from rfl, dig_zero] at e
    exact e
  · have h1 := lim_ps h
    unfold lim at h1
    rw [decide_eq_true (by omega)]
    exact made1 (lim_ps h) hk
theorem rmF {N k : Nat} (hk : lim N ≤ k) : (T.st [T.c (.bool false), T.l cU (dig N)]).le (T.Z (intv false N) k) := by
  have e := z_of (s := false) (z := intv false N) (k := k) (by show false = decide ((N : Int) < 0); exact (decide_eq_false (by omega)).symm) (by rw [zl_intv]; exact hk)
  rwa [intv_natAbs] at e

theorem r02_made {s : Bool} {N k : Nat} (hk : k ≤ 17592186044416) : Fn Try.prog 57 [T.c (.bool s), T.L N k] [] [] [] (T.Z (intv s N) k) := by
  refine fn_of Try.func57 rfl (by show 2 ≤ 16; decide) fun cx hcx => ?_
  refine tri_sub (sl 0 rfl (sl 1 rfl sn)) en ?_
  refine tri_ex 1 rfl fun xs ⟨hl, hv, hb⟩ => ?_
  have hN := lim_val hl hv hb
  refine tri_seq ?_
  refine tri_reg mixed hcx ?_ _ _
  refine nw 10 zeZ ?_
  refine ⟨by kernel_rfl, ?_⟩
  refine nx (sl 0 rfl (sl 1 rfl (sl 4 rfl sn))) (el 10 rfl en) ?_
  refine tri_seq ?_
  refine tri_reg mixed hcx ?_ _ _
  refine mv rfl ?_
  refine ca rfl (h := r01_Norm (by omega)) (hn := ?_)
  refine asg rfl ?_
  refine ⟨by kernel_rfl, ?_⟩
  refine nx (sl 0 rfl (sl 4 rfl (sl 5 rfl sn))) (el 10 rfl en) ?_
  refine tri_seq ?_
  rcases Bool.eq_false_or_eq_true s with h0 | h0
  · subst h0
    refine tri_reg mixed hcx ?_ _ _
    refine mv rfl ?_
    refine mv rfl ?_
    refine mv rfl ?_ (hg := gd1)
    refine ln slLs rfl ?_ (hg := gd1)
    refine cgt rfl rfl rfl ?_ (hg := gd1)
    refine pk rfl rfl ?_
    refine mv rfl ?_
    refine bu stZ rfl ?_
    refine st rfl rfl rfl tyZ rfl ?_
    refine ⟨by kernel_rfl, ?_⟩
    refine nx (sl 4 rfl sn) (el 10 rfl en) ?_
    refine tri_ret ?_
    repeat (first | refine pn_thenr ?_ | refine pn_blkr ?_)
    exact ret1 hcx rfl (rv_cell (c' := cx) (n := 0) rfl rfl tyZ rfl) (rmT hN) en
  · subst h0
    refine tri_reg mixed hcx ?_ _ _
    refine mv rfl ?_
    refine mv rfl ?_
    refine j_off rfl rfl rfl rfl ?_
    refine j_off rfl rfl rfl rfl ?_
    refine j_off rfl rfl rfl rfl ?_
    refine pk rfl rfl ?_
    refine mv rfl ?_
    refine bu stZ rfl ?_
    refine st rfl rfl rfl tyZ rfl ?_
    refine ⟨by kernel_rfl, ?_⟩
    refine nx (sl 4 rfl sn) (el 10 rfl en) ?_
    refine tri_ret ?_
    repeat (first | refine pn_thenr ?_ | refine pn_blkr ?_)
    exact ret1 hcx rfl (rv_cell (c' := cx) (n := 0) rfl rfl tyZ rfl) (rmF hN) en

theorem r02_Norm {z : Int} {k : Nat} (hk : k ≤ 17592186044416) : Fn Try.prog 64 [T.Zi z k] [] [] [] (T.Z z k) := by
  refine fn_of Try.func64 rfl (by show 1 ≤ 8; decide) fun cx hcx => ?_
  refine tri_sub (sl 0 rfl sn) en ?_
  refine tri_zi 0 rfl fun s0 M0 x0 hl0 hv0 hb0 hz0 hq0 => ?_
  subst hz0; have hB0 := lim_val hl0 hv0 hb0
  refine tri_seq ?_
  refine tri_reg mixed hcx ?_ _ _
  refine bxs 10 rfl ?_
  refine nw 11 zeZ ?_
  refine ⟨by kernel_rfl, ?_⟩
  refine nx (sl 1 rfl (sl 2 rfl sn)) (el 10 rfl (el 11 rfl en)) ?_
  refine tri_seq ?_
  refine tri_reg mixed hcx ?_ _ _
  refine fa rfl fNeg 0 ?_
  refine ld rfl rfl tyB rfl ?_
  refine fa rfl fMag 1 ?_
  refine ld rfl rfl tyLs rfl ?_
  refine ca rfl (h := r02_made (by omega)) (hn := ?_)
  refine st rfl rfl rfl tyZ rfl ?_
  refine ⟨by kernel_rfl, ?_⟩
  refine nx (sl 2 rfl sn) (el 10 rfl (el 11 rfl en)) ?_
  refine tri_ret ?_
  repeat (first | refine pn_thenr ?_ | refine pn_blkr ?_)
  exact ret1 hcx rfl (rv_cell (c' := cx) (n := 0) rfl rfl tyZ rfl) (.refl _) en

theorem r02_Neg {z : Int} {k : Nat} (hk : k ≤ 17592186044416) : Fn Try.prog 65 [T.Zi z k] [] [] [] (T.Z (-z) k) := by
  refine fn_of Try.func65 rfl (by show 1 ≤ 9; decide) fun cx hcx => ?_
  refine tri_sub (sl 0 rfl sn) en ?_
  refine tri_zi 0 rfl fun s0 M0 x0 hl0 hv0 hb0 hz0 hq0 => ?_
  subst hz0; have hB0 := lim_val hl0 hv0 hb0
  refine tri_seq ?_
  refine tri_reg mixed hcx ?_ _ _
  refine bxs 10 rfl ?_
  refine nw 11 zeZ ?_
  refine ⟨by kernel_rfl, ?_⟩
  refine nx (sl 1 rfl (sl 2 rfl sn)) (el 10 rfl (el 11 rfl en)) ?_
  refine tri_seq ?_
  refine tri_reg mixed hcx ?_ _ _
  refine fa rfl fNeg 0 ?_
  refine ld rfl rfl tyB rfl ?_
  refine nt rfl _ rfl ?_
  refine fa rfl fMag 1 ?_
  refine ld rfl rfl tyLs rfl ?_
  refine ca rfl (h := r02_made (by omega)) (hn := ?_)
  refine st rfl rfl rfl tyZ rfl ?_
  refine ⟨by kernel_rfl, ?_⟩
  refine nx (sl 2 rfl sn) (el 10 rfl (el 11 rfl en)) ?_
  refine tri_ret ?_
  repeat (first | refine pn_thenr ?_ | refine pn_blkr ?_)
  exact ret1 hcx rfl (rv_cell (c' := cx) (n := 0) rfl rfl tyZ rfl) (z_cast (intv_not _ _) (Nat.le_refl _)) en

theorem dig_len0 {M : Nat} (h : ((dig M).length : Int) = 0) : M = 0 := Nat.eq_zero_of_not_pos fun h1 => by have := lim_ps h1; unfold lim at this; omega
theorem dig_len1 {M : Nat} (h : ¬ ((dig M).length : Int) = 0) : M ≠ 0 := fun e => by subst e; rw [dig_zero] at h; exact h rfl

theorem r02_Sign {z : Int} {k : Nat} (hk : k ≤ 17592186044416) : Fn Try.prog 30 [T.Zi z k] [] [] [] (T.c (.int .i64 (sg z))) := by
  refine fn_of Try.func30 rfl (by show 1 ≤ 14; decide) fun cx hcx => ?_
  refine tri_sub (sl 0 rfl sn) en ?_
  refine tri_zi 0 rfl fun s0 M0 x0 hl0 hv0 hb0 hz0 hq0 => ?_
  subst hz0; have hB0 := lim_val hl0 hv0 hb0
  refine tri_seq ?_
  refine tri_reg mixed hcx ?_ _ _
  refine bxs 10 rfl ?_
  refine asg rfl ?_
  refine ⟨by kernel_rfl, ?_⟩
  refine nx (sl 1 rfl sn) (el 10 rfl en) ?_
  refine tri_seq ?_
  refine tri_reg mixed hcx ?_ _ _
  refine fa rfl fMag 1 ?_
  refine ld rfl rfl tyLs rfl ?_
  refine ca rfl (h := r01_Norm (by omega)) (hn := ?_)
  refine asg rfl ?_
  refine ⟨by kernel_rfl, ?_⟩
  refine nx (sl 1 rfl (sl 3 rfl sn)) (el 10 rfl en) ?_
  refine tri_seq ?_
  refine tri_block ?_
  refine tri_seq ?_
  refine tri_reg mixed hcx ?_ _ _
  refine mv rfl ?_
  refine ln slLs rfl ?_
  refine ceq rfl rfl rfl ?_
  refine asg rfl ?_
  refine ⟨by kernel_rfl, ?_⟩
  refine nx (sl 1 rfl (sl 7 rfl sn)) (el 10 rfl en) ?_
  refine tri_if rfl (fun hc => ?_) (fun hc => ?_)
  · refine tri_seq ?_
    refine tri_reg mixed hcx ?_ _ _
    refine asg rfl ?_
    refine ⟨by kernel_rfl, ?_⟩
    refine nx (sl 2 rfl sn) (el 10 rfl en) ?_
    refine tri_ret ?_
    repeat (first | refine pn_thenr ?_ | refine pn_blkr ?_)
    exact ret1 hcx rfl (rv_tmp rfl) (ci (sgi_zero (dig_len0 hc)).symm) en
  · refine tri_seq ?_
    rcases Bool.eq_false_or_eq_true s0 with h0 | h0
    · subst h0
      refine tri_reg mixed hcx ?_ _ _
      refine fa rfl fNeg 0 ?_
      refine ld rfl rfl tyB rfl ?_
      refine asg rfl ?_
      refine ⟨by kernel_rfl, ?_⟩
      refine nx (sl 11 rfl sn) (el 10 rfl en) ?_
      refine tri_true rfl rfl ?_
      refine tri_seq ?_
      refine tri_reg mixed hcx ?_ _ _
      refine asg rfl ?_
      refine ⟨by kernel_rfl, ?_⟩
      refine nx (sl 2 rfl sn) (el 10 rfl en) ?_
      refine tri_ret ?_
      repeat (first | refine pn_thenr ?_ | refine pn_blkr ?_)
      exact ret1 hcx rfl (rv_tmp rfl) (ci (sgi_neg (dig_len1 hc)).symm) en
    · subst h0
      refine tri_reg mixed hcx ?_ _ _
      refine fa rfl fNeg 0 ?_
      refine ld rfl rfl tyB rfl ?_
      refine asg rfl ?_
      refine ⟨by kernel_rfl, ?_⟩
      refine nx (sl 11 rfl sn) (el 10 rfl en) ?_
      refine tri_false rfl rfl ?_
      refine tri_skip ?_
      refine pn_blk ?_
      refine nx sn (el 10 rfl en) ?_
      refine tri_seq ?_
      refine tri_reg mixed hcx ?_ _ _
      refine asg rfl ?_
      refine ⟨by kernel_rfl, ?_⟩
      refine nx (sl 2 rfl sn) (el 10 rfl en) ?_
      refine tri_ret ?_
      repeat (first | refine pn_thenr ?_ | refine pn_blkr ?_)
      exact ret1 hcx rfl (rv_tmp rfl) (ci (sgi_pos (dig_len1 hc)).symm) en

theorem r02_Mul {a b : Int} {k l : Nat} (hk : k ≤ 8796093022208) (hl : l ≤ 8796093022208) : Fn Try.prog 39 [T.Zi a k, T.Zi b l] [] [] [] (T.Z (a * b) (k + l)) := by
  refine fn_of Try.func39 rfl (by show 2 ≤ 16; decide) fun cx hcx => ?_
  refine tri_sub (sl 0 rfl (sl 1 rfl sn)) en ?_
  refine tri_zi 0 rfl fun s0 M0 x0 hl0 hv0 hb0 hz0 hq0 => ?_
  subst hz0; have hB0 := lim_val hl0 hv0 hb0
  refine tri_zi 1 rfl fun s1 M1 x1 hl1 hv1 hb1 hz1 hq1 => ?_
  subst hz1; have hB1 := lim_val hl1 hv1 hb1
  have hzA := zl_mul (z_bd (s := s0) hl0 hv0 hb0) (z_bd (s := s1) hl1 hv1 hb1)
  have hlA := Nat.le_trans (lim_mul M0 M1) (Nat.add_le_add hB0 hB1)
  refine tri_seq ?_
  refine tri_reg mixed hcx ?_ _ _
  refine bxs 10 rfl ?_
  refine bxs 11 rfl ?_
  refine nw 12 zeZ ?_
  refine ⟨by kernel_rfl, ?_⟩
  refine nx (sl 2 rfl (sl 3 rfl (sl 4 rfl sn))) (el 10 rfl (el 11 rfl (el 12 rfl en))) ?_
  refine tri_seq ?_
  refine tri_reg mixed hcx ?_ _ _
  refine fa rfl fNeg 0 ?_
  refine ld rfl rfl tyB rfl ?_
  refine fa rfl fNeg 0 ?_
  refine ld rfl rfl tyB rfl ?_
  refine neb rfl rfl rfl ?_
  refine fa rfl fMag 1 ?_
  refine ld rfl rfl tyLs rfl ?_
  refine fa rfl fMag 1 ?_
  refine ld rfl rfl tyLs rfl ?_
  refine ca rfl (h := r01_Mul (by omega) (by omega)) (hn := ?_)
  refine ca rfl (h := r02_made (by omega)) (hn := ?_)
  refine st rfl rfl rfl tyZ rfl ?_
  refine ⟨by kernel_rfl, ?_⟩
  refine nx (sl 4 rfl sn) (el 10 rfl (el 11 rfl (el 12 rfl en))) ?_
  refine tri_ret ?_
  repeat (first | refine pn_thenr ?_ | refine pn_blkr ?_)
  exact ret1 hcx rfl (rv_cell (c' := cx) (n := 0) rfl rfl tyZ rfl) ((z_cast (intv_mul _ _ _ _).symm (Nat.le_refl _)).trans (z_as hzA)) en

theorem r02_Add {a b : Int} {k l : Nat} (hk : k ≤ 4398046511104) (hl : l ≤ 4398046511104) : Fn Try.prog 41 [T.Zi a k, T.Zi b l] [] [] [] (T.Z (a + b) (k + l + 1)) := by
  refine fn_of Try.func41 rfl (by show 2 ≤ 52; decide) fun cx hcx => ?_
  refine tri_sub (sl 0 rfl (sl 1 rfl sn)) en ?_
  refine tri_zi 0 rfl fun s0 M0 x0 hl0 hv0 hb0 hz0 hq0 => ?_
  subst hz0; have hB0 := lim_val hl0 hv0 hb0
  refine tri_zi 1 rfl fun s1 M1 x1 hl1 hv1 hb1 hz1 hq1 => ?_
  subst hz1; have hB1 := lim_val hl1 hv1 hb1
  have hzA := zl_add (z_bd (s := s0) hl0 hv0 hb0) (z_bd (s := s1) hl1 hv1 hb1)
  have hlA := lim_add2 hB0 hB1
  refine tri_seq ?_
  refine tri_reg mixed hcx ?_ _ _
  refine bxs 10 rfl ?_
  refine bxs 11 rfl ?_
  refine nw 12 zeZ ?_
  refine ⟨by kernel_rfl, ?_⟩
  refine nx (sl 2 rfl (sl 3 rfl (sl 4 rfl sn))) (el 10 rfl (el 11 rfl (el 12 rfl en))) ?_
  refine tri_seq ?_
  refine tri_seq ?_
  by_cases hs : s0 = s1
  · subst hs
    refine tri_reg mixed hcx ?_ _ _
    refine fa rfl fNeg 0 ?_
    refine ld rfl rfl tyB rfl ?_
    refine fa rfl fNeg 0 ?_
    refine ld rfl rfl tyB rfl ?_
    refine eqb rfl rfl (beq_self_eq_true _) ?_
    refine ⟨by kernel_rfl, ?_⟩
    refine nx (sl 2 rfl (sl 3 rfl (sl 4 rfl (sl 13 rfl sn)))) (el 10 rfl (el 11 rfl (el 12 rfl en))) ?_
    refine tri_true rfl rfl ?_
    refine tri_seq ?_
    refine tri_reg mixed hcx ?_ _ _
    refine fa rfl fNeg 0 ?_
    refine ld rfl rfl tyB rfl ?_
    refine fa rfl fMag 1 ?_
    refine ld rfl rfl tyLs rfl ?_
    refine fa rfl fMag 1 ?_
    refine ld rfl rfl tyLs rfl ?_
    refine ca rfl (h := r01_Add (by omega) (by omega)) (hn := ?_)
    refine ca rfl (h := r02_made (by omega)) (hn := ?_)
    refine st rfl rfl rfl tyZ rfl ?_
    refine ⟨by kernel_rfl, ?_⟩
    refine nx (sl 4 rfl sn) (el 10 rfl (el 11 rfl (el 12 rfl en))) ?_
    refine tri_ret ?_
    repeat (first | refine pn_thenr ?_ | refine pn_blkr ?_)
    exact ret1 hcx rfl (rv_cell (c' := cx) (n := 0) rfl rfl tyZ rfl) ((z_cast (intv_add _ _ _).symm (Nat.le_refl _)).trans (z_as hzA)) en
  · refine tri_reg mixed hcx ?_ _ _
    refine fa rfl fNeg 0 ?_
    refine ld rfl rfl tyB rfl ?_
    refine fa rfl fNeg 0 ?_
    refine ld rfl rfl tyB rfl ?_
    refine eqb rfl rfl (beq_false_of_ne hs) ?_
    refine ⟨by kernel_rfl, ?_⟩
    refine nx (sl 2 rfl (sl 3 rfl (sl 4 rfl (sl 13 rfl sn)))) (el 10 rfl (el 11 rfl (el 12 rfl en))) ?_
    refine tri_false rfl rfl ?_
    refine tri_skip ?_
    refine nx (sl 2 rfl (sl 3 rfl (sl 4 rfl sn))) (el 10 rfl (el 11 rfl (el 12 rfl en))) ?_
    refine tri_seq ?_
    refine tri_seq ?_
    refine tri_reg mixed hcx ?_ _ _
    refine fa rfl fMag 1 ?_
    refine ld rfl rfl tyLs rfl ?_
    refine fa rfl fMag 1 ?_
    refine ld rfl rfl tyLs rfl ?_
    refine ca rfl (h := r01_Cmp (by omega) (by omega)) (hn := ?_)
    refine cge rfl rfl rfl ?_
    refine ⟨by kernel_rfl, ?_⟩
    refine nx (sl 2 rfl (sl 3 rfl (sl 4 rfl (sl 27 rfl sn)))) (el 10 rfl (el 11 rfl (el 12 rfl en))) ?_
    refine tri_if rfl (fun hc => ?_) (fun hc => ?_)
    · have hge := sgnc_nlt (fun h => by omega : ¬ sgnc (M0 : Int) M1 < 0); have hlD : lim (M0 - M1) ≤ k := Nat.le_trans (lim_mono (Nat.sub_le _ _)) hB0
      refine tri_seq ?_
      refine tri_reg mixed hcx ?_ _ _
      refine fa rfl fMag 1 ?_
      refine ld rfl rfl tyLs rfl ?_
      refine fa rfl fMag 1 ?_
      refine ld rfl rfl tyLs rfl ?_
      refine ca rfl (h := r01_Sub (by omega) (by omega) (by omega)) (hn := ?_)
      refine mv rfl ?_
      refine ex rfl rfl ?_
      refine ex rfl rfl ?_
      refine asg rfl ?_
      refine asg rfl ?_
      refine ⟨by kernel_rfl, ?_⟩
      refine nx (sl 2 rfl (sl 4 rfl (sl 5 rfl sn))) (el 10 rfl (el 11 rfl (el 12 rfl en))) ?_
      refine tri_seq ?_
      refine tri_reg mixed hcx ?_ _ _
      refine fa rfl fNeg 0 ?_
      refine ld rfl rfl tyB rfl ?_
      refine mv rfl ?_
      refine ca rfl (h := r02_made (by omega)) (hn := ?_)
      refine st rfl rfl rfl tyZ rfl ?_
      refine ⟨by kernel_rfl, ?_⟩
      refine nx (sl 4 rfl sn) (el 10 rfl (el 11 rfl (el 12 rfl en))) ?_
      refine tri_ret ?_
      repeat (first | refine pn_thenr ?_ | refine pn_blkr ?_)
      exact ret1 hcx rfl (rv_cell (c' := cx) (n := 0) rfl rfl tyZ rfl) ((z_cast (intv_diff hs hge) (Nat.le_refl _)).trans (z_as hzA)) en
    · have hge := sgnc_neg (by omega : sgnc (M0 : Int) M1 < 0); have hlD : lim (M1 - M0) ≤ l := Nat.le_trans (lim_mono (Nat.sub_le _ _)) hB1
      refine tri_skip ?_
      refine nx (sl 2 rfl (sl 3 rfl (sl 4 rfl sn))) (el 10 rfl (el 11 rfl (el 12 rfl en))) ?_
      refine tri_seq ?_
      refine tri_reg mixed hcx ?_ _ _
      refine fa rfl fMag 1 ?_
      refine ld rfl rfl tyLs rfl ?_
      refine fa rfl fMag 1 ?_
      refine ld rfl rfl tyLs rfl ?_
      refine ca rfl (h := r01_Sub (by omega) (by omega) (by omega)) (hn := ?_)
      refine mv rfl ?_
      refine ex rfl rfl ?_
      refine ex rfl rfl ?_
      refine asg rfl ?_
      refine asg rfl ?_
      refine ⟨by kernel_rfl, ?_⟩
      refine nx (sl 3 rfl (sl 4 rfl (sl 7 rfl sn))) (el 10 rfl (el 11 rfl (el 12 rfl en))) ?_
      refine tri_seq ?_
      refine tri_reg mixed hcx ?_ _ _
      refine fa rfl fNeg 0 ?_
      refine ld rfl rfl tyB rfl ?_
      refine mv rfl ?_
      refine ca rfl (h := r02_made (by omega)) (hn := ?_)
      refine st rfl rfl rfl tyZ rfl ?_
      refine ⟨by kernel_rfl, ?_⟩
      refine nx (sl 4 rfl sn) (el 10 rfl (el 11 rfl (el 12 rfl en))) ?_
      refine tri_ret ?_
      repeat (first | refine pn_thenr ?_ | refine pn_blkr ?_)
      exact ret1 hcx rfl (rv_cell (c' := cx) (n := 0) rfl rfl tyZ rfl) ((z_cast ((intv_diff (fun h => hs h.symm) (by omega)).trans (Int.add_comm _ _)) (Nat.le_refl _)).trans (z_as hzA)) en

theorem r02_Sub {a b : Int} {k l : Nat} (hk : k ≤ 4398046511104) (hl : l ≤ 4398046511104) : Fn Try.prog 83 [T.Zi a k, T.Zi b l] [] [] [] (T.Z (a - b) (k + l + 1)) := by
  refine fn_of Try.func83 rfl (by show 2 ≤ 9; decide) fun cx hcx => ?_
  refine tri_sub (sl 0 rfl (sl 1 rfl sn)) en ?_
  refine tri_seq ?_
  refine tri_reg mixed hcx ?_ _ _
  refine bx 10 rfl ?_
  refine bx 11 rfl ?_
  refine nw 12 zeZ ?_
  refine ⟨by kernel_rfl, ?_⟩
  refine nx (sl 2 rfl (sl 3 rfl (sl 4 rfl sn))) (el 10 rfl (el 11 rfl (el 12 rfl en))) ?_
  refine tri_seq ?_
  refine tri_reg mixed hcx ?_ _ _
  refine ld rfl rfl tyZ rfl ?_
  refine ld rfl rfl tyZ rfl ?_
  refine ca rfl (h := r02_Neg (by omega)) (hn := ?_)
  refine ca rfl (h := r02_Add (by omega) (by omega)) (hn := ?_)
  refine st rfl rfl rfl tyZ rfl ?_
  refine ⟨by kernel_rfl, ?_⟩
  refine nx (sl 4 rfl sn) (el 10 rfl (el 11 rfl (el 12 rfl en))) ?_
  refine tri_ret ?_
  repeat (first | refine pn_thenr ?_ | refine pn_blkr ?_)
  exact ret1 hcx rfl (rv_cell (c' := cx) (n := 0) rfl rfl tyZ rfl) (z_cast Int.sub_eq_add_neg.symm (Nat.le_refl _)) en

theorem sg_sub (a b : Int) : sg (a - b) = sgnc a b := by unfold sg sgnc; split <;> split <;> (try split) <;> (try split) <;> omega

theorem r02_Cmp {a b : Int} {k l : Nat} (hk : k ≤ 4398046511104) (hl : l ≤ 4398046511104) : Fn Try.prog 56 [T.Zi a k, T.Zi b l] [] [] [] (T.c (.int .i64 (sgnc a b))) := by
  refine fn_of Try.func56 rfl (by show 2 ≤ 9; decide) fun cx hcx => ?_
  refine tri_sub (sl 0 rfl (sl 1 rfl sn)) en ?_
  refine tri_seq ?_
  refine tri_reg mixed hcx ?_ _ _
  refine bx 10 rfl ?_
  refine bx 11 rfl ?_
  refine asg rfl ?_
  refine ⟨by kernel_rfl, ?_⟩
  refine nx (sl 2 rfl (sl 3 rfl sn)) (el 10 rfl (el 11 rfl en)) ?_
  refine tri_seq ?_
  refine tri_reg mixed hcx ?_ _ _
  refine ld rfl rfl tyZ rfl ?_
  refine ld rfl rfl tyZ rfl ?_
  refine ca rfl (h := r02_Sub (by omega) (by omega)) (hn := ?_)
  refine ca rfl (h := r02_Sign (by omega)) (hn := ?_)
  refine asg rfl ?_
  refine ⟨by kernel_rfl, ?_⟩
  refine nx (sl 4 rfl sn) (el 10 rfl (el 11 rfl en)) ?_
  refine tri_ret ?_
  repeat (first | refine pn_thenr ?_ | refine pn_blkr ?_)
  exact ret1 hcx rfl (rv_tmp rfl) (ci (sg_sub _ _)) en

theorem r02_Of {n : Int} (h0 : -9223372036854775808 ≤ n) (h1 : n < 9223372036854775808) : Fn Try.prog 29 [T.c (.int .i64 n)] [] [] [] (T.Z n 2) := by
  refine fn_of Try.func29 rfl (by show 1 ≤ 19; decide) fun cx hcx => ?_
  refine tri_sub (sl 0 rfl sn) en ?_
  refine tri_seq ?_
  refine tri_reg mixed hcx ?_ _ _
  refine nw 10 zeZ ?_
  refine ⟨by kernel_rfl, ?_⟩
  refine nx (sl 0 rfl (sl 2 rfl sn)) (el 10 rfl en) ?_
  refine tri_seq ?_
  refine tri_reg mixed hcx ?_ _ _
  refine mv rfl ?_
  refine cvw (n % 18446744073709551616) rfl cvI64U64 rfl ?_
  refine asg rfl ?_
  refine ⟨by kernel_rfl, ?_⟩
  refine nx (sl 0 rfl (sl 2 rfl (sl 3 rfl sn))) (el 10 rfl en) ?_
  refine tri_seq ?_
  refine tri_seq ?_
  refine tri_reg mixed hcx ?_ _ _
  refine mv rfl ?_
  refine clt rfl rfl rfl ?_
  refine ⟨by kernel_rfl, ?_⟩
  refine nx (sl 0 rfl (sl 2 rfl (sl 3 rfl (sl 7 rfl sn)))) (el 10 rfl en) ?_
  refine tri_if rfl (fun hc => ?_) (fun hc => ?_)
  · refine tri_reg mixed hcx ?_ _ _
    refine mv rfl ?_
    refine ngm (-n) rfl (by omega) ?_
    refine asg rfl ?_
    refine ⟨by kernel_rfl, ?_⟩
    refine nx (sl 0 rfl (sl 2 rfl (sl 3 rfl sn))) (el 10 rfl en) ?_
    refine tri_seq ?_
    obtain ⟨hL1, hL2⟩ := two_limbs (u := -n) (N := n.natAbs) (by omega) (by omega); have hL3 : [-n % 4294967296, -n / 4294967296].length ≤ 2 := Nat.le_refl _
    refine tri_reg mixed hcx ?_ _ _
    refine mv rfl ?_
    refine clt rfl rfl (decide_eq_true (by omega)) ?_
    refine mv rfl ?_
    refine cvm _ rfl cvU64U32 rfl ?_
    refine mv rfl ?_
    refine shR (s := 32) (-n / 4294967296) rfl rfl rfl ⟨by omega, by omega, by decide⟩ ?_
    refine cvm (-n / 4294967296) rfl cvU64U32 (by omega) ?_
    refine bl2 rfl rfl slLs zvU32 ?_
    refine ca rfl (h := r02_made (by omega)) (hn := ?_)
    refine st rfl rfl rfl tyZ rfl ?_
    refine ⟨by kernel_rfl, ?_⟩
    refine nx (sl 2 rfl sn) (el 10 rfl en) ?_
    refine tri_ret ?_
    repeat (first | refine pn_thenr ?_ | refine pn_blkr ?_)
    exact ret1 hcx rfl (rv_cell (c' := cx) (n := 0) rfl rfl tyZ rfl) (z_cast (intv_abs_neg hc) (Nat.le_refl _)) en
  · refine tri_as 3 (Z := T.c (.int .u64 n)) rfl (ci (by omega)) ?_
    refine tri_skip ?_
    refine nx (sl 0 rfl (sl 2 rfl (sl 3 rfl sn))) (el 10 rfl en) ?_
    refine tri_seq ?_
    obtain ⟨hL1, hL2⟩ := two_limbs (u := n) (N := n.natAbs) (by omega) (by omega); have hL3 : [n % 4294967296, n / 4294967296].length ≤ 2 := Nat.le_refl _
    refine tri_reg mixed hcx ?_ _ _
    refine mv rfl ?_
    refine clt rfl rfl (decide_eq_false (by omega)) ?_
    refine mv rfl ?_
    refine cvm _ rfl cvU64U32 rfl ?_
    refine mv rfl ?_
    refine shR (s := 32) (n / 4294967296) rfl rfl rfl ⟨by omega, by omega, by decide⟩ ?_
    refine cvm (n / 4294967296) rfl cvU64U32 (by omega) ?_
    refine bl2 rfl rfl slLs zvU32 ?_
    refine ca rfl (h := r02_made (by omega)) (hn := ?_)
    refine st rfl rfl rfl tyZ rfl ?_
    refine ⟨by kernel_rfl, ?_⟩
    refine nx (sl 2 rfl sn) (el 10 rfl en) ?_
    refine tri_ret ?_
    repeat (first | refine pn_thenr ?_ | refine pn_blkr ?_)
    exact ret1 hcx rfl (rv_cell (c' := cx) (n := 0) rfl rfl tyZ rfl) (z_cast (intv_abs_pos hc) (Nat.le_refl _)) en

theorem r03_one  : Fn Try.prog 73 [] [] [] [] (T.Z 1 2) := by
  refine fn_of Try.func73 rfl (by show 0 ≤ 2; decide) fun cx hcx => ?_
  refine tri_sub sn en ?_
  refine tri_seq ?_
  refine tri_reg mixed hcx ?_ _ _
  refine nw 10 zeZ ?_
  refine ⟨by kernel_rfl, ?_⟩
  refine nx (sl 0 rfl sn) (el 10 rfl en) ?_
  refine tri_seq ?_
  refine tri_reg mixed hcx ?_ _ _
  refine ca rfl (h := r02_Of (by omega) (by omega)) (hn := ?_)
  refine st rfl rfl rfl tyZ rfl ?_
  refine ⟨by kernel_rfl, ?_⟩
  refine nx (sl 0 rfl sn) (el 10 rfl en) ?_
  refine tri_ret ?_
  repeat (first | refine pn_thenr ?_ | refine pn_blkr ?_)
  exact ret1 hcx rfl (rv_cell (c' := cx) (n := 0) rfl rfl tyZ rfl) (.refl _) en

theorem q_mk {q : Rat} {x y : Int} {k l K : Nat} (h1 : q.num = x) (h2 : (q.den : Int) = y) (hk : k ≤ K) (hl : l ≤ K) : (T.st [T.Z x k, T.Z y l]).le (T.Q q K) := by
  subst h1; subst h2
  exact st_le (l := [T.Z q.num k, T.Z (q.den : Int) l]) (l' := [T.Z q.num K, T.Z (q.den : Int) K]) ⟨z_mono hk, z_mono hl, trivial⟩
theorem q_st {q : Rat} {x y : Int} {s : Bool} {k K : Nat} (h1 : q.num = x) (h2 : (q.den : Int) = y) (hk : k ≤ K) (hs : s = decide (y < 0)) (hl : zl y ≤ K) : (T.st [T.Z x k, T.st [T.c (.bool s), T.l cU (dig y.natAbs)]]).le (T.Q q K) := by
  subst h1; subst h2
  exact st_le (l := [T.Z q.num k, T.st [T.c (.bool s), T.l cU (dig (q.den : Int).natAbs)]]) (l' := [T.Z q.num K, T.Z (q.den : Int) K]) ⟨z_mono hk, z_of hs hl, trivial⟩

theorem r03_Of {z : Int} {k : Nat} (hk : k ≤ 17592186044416) : Fn Try.prog 46 [T.Zi z k] [] [] [] (T.Q (z : Rat) (k + 2)) := by
  refine fn_of Try.func46 rfl (by show 1 ≤ 7; decide) fun cx hcx => ?_
  refine tri_sub (sl 0 rfl sn) en ?_
  refine tri_seq ?_
  refine tri_reg mixed hcx ?_ _ _
  refine bx 10 rfl ?_
  refine nw 11 zeQ ?_
  refine ⟨by kernel_rfl, ?_⟩
  refine nx (sl 1 rfl (sl 2 rfl sn)) (el 10 rfl (el 11 rfl en)) ?_
  refine tri_seq ?_
  refine tri_reg mixed hcx ?_ _ _
  refine ld rfl rfl tyZ rfl ?_
  refine ca rfl (h := r02_Norm (by omega)) (hn := ?_)
  refine ca rfl (h := r03_one) (hn := ?_)
  refine bu stQ rfl ?_
  refine st rfl rfl rfl tyQ rfl ?_
  refine ⟨by kernel_rfl, ?_⟩
  refine nx (sl 2 rfl sn) (el 10 rfl (el 11 rfl en)) ?_
  refine tri_ret ?_
  repeat (first | refine pn_thenr ?_ | refine pn_blkr ?_)
  exact ret1 hcx rfl (rv_cell (c' := cx) (n := 0) rfl rfl tyQ rfl) (q_mk (rat_whole z).1 (rat_whole z).2 (by omega) (by omega)) en

theorem sg_lt {z : Int} : sg z < 0 ↔ z < 0 := by unfold sg sgnc; split <;> (try split) <;> omega
theorem gcd_abs (x y : Int) : Nat.gcd x.natAbs y.natAbs = Int.gcd x y := rfl
theorem div_abs {x : Int} {g : Nat} (h : (g : Int) ∣ x) : iv (decide (x < 0)) (val (dig (x.natAbs / g))) = x / g := by
  obtain ⟨q, rfl⟩ := h
  rw [dig_val]
  rcases Nat.eq_zero_or_pos g with h | h
  · subst h; simp [iv]
  · rw [Int.natAbs_mul, Int.natAbs_natCast, Nat.mul_div_cancel_left _ h, Int.mul_ediv_cancel_left _ (by omega)]
    unfold iv
    have : ((g : Int) * q < 0) ↔ q < 0 := ⟨fun h1 => Int.not_le.1 fun h2 => by have := Int.mul_nonneg (show (0 : Int) ≤ g by omega) h2; omega, fun h1 => Int.mul_neg_of_pos_of_neg (by omega) h1⟩
    by_cases hq : q < 0
    · rw [decide_eq_true (this.2 hq)]; simp; omega
    · rw [decide_eq_false (fun h => hq (this.1 h))]; simp; omega
theorem div_abs2 {y : Int} {g : Nat} (hy : 0 < y) (h : (g : Int) ∣ y) : y.natAbs / g = (y / (g : Int)).natAbs ∧ 0 ≤ y / (g : Int) := by
  have := div_abs h
  rw [decide_eq_false (by omega), dig_val] at this
  simp only [iv] at this
  have e : ((y.natAbs / g : Nat) : Int) = y / (g : Int) := by simpa using this
  exact ⟨by rw [← e, Int.natAbs_natCast], by rw [← e]; exact Int.natCast_nonneg _⟩
instance (z : Int) : IsZ (T.st [T.c (.bool (decide (z < 0))), T.l cU (dig z.natAbs)]) z (zl z) := ⟨(z_of rfl (Nat.le_refl _)).trans (z_zi z _), rfl⟩

section
variable {P : Program} {x : Code} {Q : Exit → Act → World → Prop} {ctx : Ctx} {n : Nat} {g : List (Nat × T)} {E : List (Nat × Option Ent)}
/-- What a whole number's form says of its bound. -/
theorem tri_zb (t : Nat) {z : Int} {k : Nat} (ht : lk g t = some (T.Zi z k)) (h : zl z ≤ k → Tri P x Q ctx n g E) : Tri P x Q ctx n g E := fun a w hS => by
  have hS' := hS
  obtain ⟨β, u, F, h1, h2, h3, _⟩ := hS'
  obtain ⟨v, _, i, ⟨k1, k2, k3⟩, _⟩ := h3 t _ ht
  obtain ⟨M, hM⟩ := Int.eq_ofNat_of_zero_le (val_nonneg k1)
  refine h ?_ a w hS
  rw [k2, hM]
  exact z_bd (s := i.1) k1 hM k3
end

theorem r03_Make {a b : Int} {k l : Nat} (hb : b ≠ 0) (hk : k ≤ 1099511627776) (hl : l ≤ 1099511627776) : Fn Try.prog 40 [T.Zi a k, T.Zi b l] [] [] [] (T.Q ((a : Rat) / b) (k + l)) := by
  refine fn_of Try.func40 rfl (by show 2 ≤ 54; decide) fun cx hcx => ?_
  refine tri_sub (sl 0 rfl (sl 1 rfl sn)) en ?_
  refine tri_zb 0 rfl fun hza => ?_
  refine tri_zb 1 rfl fun hzb => ?_
  refine tri_seq ?_
  refine tri_reg mixed hcx ?_ _ _
  refine bx 10 rfl ?_
  refine bx 11 rfl ?_
  refine nw 12 zeQ ?_
  refine ⟨by kernel_rfl, ?_⟩
  refine nx (sl 2 rfl (sl 3 rfl (sl 4 rfl sn))) (el 10 rfl (el 11 rfl (el 12 rfl en))) ?_
  refine tri_seq ?_
  refine tri_reg mixed hcx ?_ _ _
  refine ld rfl rfl tyZ rfl ?_
  refine ca rfl (h := r02_Norm (by omega)) (hn := ?_)
  refine nw 112 zeZ ?_
  refine sts rfl rfl rfl tyZ rfl ?_
  refine ⟨by kernel_rfl, ?_⟩
  refine nx (sl 3 rfl (sl 4 rfl (sl 5 rfl sn))) (el 10 rfl (el 11 rfl (el 12 rfl (el 112 rfl en)))) ?_
  refine tri_seq ?_
  refine tri_reg mixed hcx ?_ _ _
  refine ld rfl rfl tyZ rfl ?_
  refine ca rfl (h := r02_Norm (by omega)) (hn := ?_)
  refine nw 212 zeZ ?_
  refine sts rfl rfl rfl tyZ rfl ?_
  refine ⟨by kernel_rfl, ?_⟩
  refine nx (sl 4 rfl (sl 5 rfl (sl 6 rfl sn))) (el 10 rfl (el 11 rfl (el 12 rfl (el 112 rfl (el 212 rfl en))))) ?_
  refine tri_join (ι := Int × Int) (fun (x, y) => [(4, T.p 12 0), (5, T.p 112 0), (6, T.p 212 0)]) (fun (x, y) => [(12, some (Ent.box 29 [T.c (.bool false), T.c (.slice none 0 0), T.c (.bool false), T.c (.slice none 0 0)])), (112, some (Ent.box 27 [T.c (.bool (decide (x < 0))), T.l cU (dig (x).natAbs)])), (212, some (Ent.box 27 [T.c (.bool (decide (y < 0))), T.l cU (dig (y).natAbs)]))]) (fun (x, y) => (0 < y) ∧ ((x : Rat) / y = (a : Rat) / b) ∧ (zl x ≤ k) ∧ (zl y ≤ l)) ?_ ?_
  · refine tri_seq ?_
    refine tri_reg mixed hcx ?_ _ _
    refine ld rfl rfl tyZ rfl ?_
    refine ca rfl (h := r02_Sign (by omega)) (hn := ?_)
    refine clt rfl rfl rfl ?_
    refine ⟨by kernel_rfl, ?_⟩
    refine nx (sl 4 rfl (sl 5 rfl (sl 6 rfl (sl 20 rfl sn)))) (el 10 rfl (el 11 rfl (el 12 rfl (el 112 rfl (el 212 rfl en))))) ?_
    refine tri_if rfl (fun hc => ?_) (fun hc => ?_)
    · have hb0 := sg_lt.1 hc
      refine tri_seq ?_
      refine tri_reg mixed hcx ?_ _ _
      refine ld rfl rfl tyZ rfl ?_
      refine ca rfl (h := r02_Neg (by omega)) (hn := ?_)
      refine sts rfl rfl rfl tyZ rfl ?_
      refine ⟨by kernel_rfl, ?_⟩
      refine nx (sl 4 rfl (sl 5 rfl (sl 6 rfl sn))) (el 10 rfl (el 11 rfl (el 12 rfl (el 112 rfl (el 212 rfl en))))) ?_
      refine tri_reg mixed hcx ?_ _ _
      refine ld rfl rfl tyZ rfl ?_
      refine ca rfl (h := r02_Neg (by omega)) (hn := ?_)
      refine sts rfl rfl rfl tyZ rfl ?_
      refine ⟨by kernel_rfl, ?_⟩
      first | exact pn_join (-a, -b) ⟨by omega, rat_neg _ _, zl_neg hza, zl_neg hzb⟩ (sl 4 rfl (sl 5 rfl (sl 6 rfl sn))) (el 12 rfl (el 112 rfl (el 212 rfl en))) | exact pn_join (a, b) ⟨hb0, rfl, hza, hzb⟩ (sl 4 rfl (sl 5 rfl (sl 6 rfl sn))) (el 12 rfl (el 112 rfl (el 212 rfl en)))
    · have hb0 : 0 < b := by have : ¬ b < 0 := fun h => hc (sg_lt.2 h); omega
      refine tri_skip ?_
      first | exact pn_join (-a, -b) ⟨by omega, rat_neg _ _, zl_neg hza, zl_neg hzb⟩ (sl 4 rfl (sl 5 rfl (sl 6 rfl sn))) (el 12 rfl (el 112 rfl (el 212 rfl en))) | exact pn_join (a, b) ⟨hb0, rfl, hza, hzb⟩ (sl 4 rfl (sl 5 rfl (sl 6 rfl sn))) (el 12 rfl (el 112 rfl (el 212 rfl en)))
  · rintro ⟨x, y⟩ ⟨hy, he, hzx, hzy⟩
    refine tri_sub (sl 4 rfl (sl 5 rfl (sl 6 rfl sn))) (el 12 rfl (el 112 rfl (el 212 rfl en))) ?_
    have hlx : lim x.natAbs ≤ k := hzx; have hly : lim y.natAbs ≤ l := hzy
    have hg0 : 0 < Nat.gcd x.natAbs y.natAbs := Nat.gcd_pos_of_pos_right _ (by omega)
    have hlg := lim_gcd hlx hly; have hmx : max k l ≤ 1099511627776 := Nat.max_le.2 ⟨hk, hl⟩
    have hdx : ((Nat.gcd x.natAbs y.natAbs : Nat) : Int) ∣ x := Int.gcd_dvd_left ..; have hdy : ((Nat.gcd x.natAbs y.natAbs : Nat) : Int) ∣ y := Int.gcd_dvd_right ..
    have hqx := zi_of (s := decide (x < 0)) (dig_lim (x.natAbs / Nat.gcd x.natAbs y.natAbs)) (div_abs hdx).symm (show (dig _).length ≤ k from Nat.le_trans (lim_mono (Nat.div_le_self _ _)) hlx)
    obtain ⟨hY1, hY2⟩ := div_abs2 hy hdy; have hrm := rat_made (x := x) hy; rw [he] at hrm
    refine tri_seq ?_
    refine tri_reg mixed hcx ?_ _ _
    refine fa rfl fMag 1 ?_
    refine ld rfl rfl tyLs rfl ?_
    refine fa rfl fMag 1 ?_
    refine ld rfl rfl tyLs rfl ?_
    refine ca rfl (h := r01_Gcd (by omega) (by omega)) (hn := ?_)
    refine asg rfl ?_
    refine ⟨by kernel_rfl, ?_⟩
    refine nx (sl 4 rfl (sl 5 rfl (sl 6 rfl (sl 7 rfl sn)))) (el 12 rfl (el 112 rfl (el 212 rfl en))) ?_
    refine tri_seq ?_
    refine tri_reg mixed hcx ?_ _ _
    refine fa rfl fMag 1 ?_
    refine ld rfl rfl tyLs rfl ?_
    refine mv rfl ?_
    refine ca rfl (h := r01_Div (by omega) (by omega) (by omega) (by omega)) (hn := ?_)
    refine mv rfl ?_
    refine ex rfl rfl ?_
    refine ex rfl rfl ?_
    refine ex rfl rfl ?_
    refine asg rfl ?_
    refine asg rfl ?_
    refine asg rfl ?_
    refine ⟨by kernel_rfl, ?_⟩
    refine nx (sl 4 rfl (sl 5 rfl (sl 6 rfl (sl 7 rfl (sl 8 rfl sn))))) (el 12 rfl (el 112 rfl (el 212 rfl en))) ?_
    refine tri_seq ?_
    refine tri_reg mixed hcx ?_ _ _
    refine fa rfl fMag 1 ?_
    refine ld rfl rfl tyLs rfl ?_
    refine mv rfl ?_
    refine ca rfl (h := r01_Div (by omega) (by omega) (by omega) (by omega)) (hn := ?_)
    refine mv rfl ?_
    refine ex rfl rfl ?_
    refine ex rfl rfl ?_
    refine ex rfl rfl ?_
    refine asg rfl ?_
    refine asg rfl ?_
    refine asg rfl ?_
    refine ⟨by kernel_rfl, ?_⟩
    refine nx (sl 4 rfl (sl 5 rfl (sl 8 rfl (sl 11 rfl sn)))) (el 12 rfl (el 112 rfl (el 212 rfl en))) ?_
    refine tri_seq ?_
    refine tri_reg mixed hcx ?_ _ _
    refine fa rfl fNeg 0 ?_
    refine ld rfl rfl tyB rfl ?_
    refine mv rfl ?_
    refine bu stZ rfl ?_
    refine ca rfl (h := r02_Norm (by omega)) (hn := ?_)
    refine mv rfl ?_
    refine bu stZ rfl ?_
    refine bu stQ rfl ?_
    refine st rfl rfl rfl tyQ rfl ?_
    refine ⟨by kernel_rfl, ?_⟩
    refine nx (sl 4 rfl sn) (el 12 rfl (el 112 rfl (el 212 rfl en))) ?_
    refine tri_ret ?_
    repeat (first | refine pn_thenr ?_ | refine pn_blkr ?_)
    exact ret1 hcx rfl (rv_cell (c' := cx) (n := 0) rfl rfl tyQ rfl) (by rw [hY1]; exact q_st hrm.1 hrm.2 (by omega) (decide_eq_false (Int.not_lt.2 hY2)).symm (Nat.le_trans (zl_div _ hzy) (by omega))) en
end Go.Proofs.Ytlmiadjogdfjkaa.V
