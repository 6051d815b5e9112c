/- Contracts of package zint. -/
import Derived.Test.YtlmiadjogdfjkaaK2
set_option linter.unusedVariables false
set_option linter.unusedSimpArgs false
set_option maxRecDepth 100000
namespace Go.Proofs.Ytlmiadjogdfjkaa.V
open Go.RowKit Mt Nml
theorem intv_not (s : Bool) (M : Nat) : intv (!s) M = -intv s M := by cases s <;> simp [intv]
theorem intv_zero (s : Bool) : intv s 0 = 0 := by cases s <;> rfl
theorem zl_intv (s : Bool) (N : Nat) : zl (intv s N) = lim N := by unfold zl; rw [intv_natAbs]
theorem z_cast {z z' : Int} {k k' : Nat} (h : z = z') (hk : k ≤ k') : (T.Z z k).le (T.Z z' k') := by subst h; exact z_mono hk
theorem z_bd {s : Bool} {M : Nat} {xs : List Int} {k : Nat} (h1 : Lim xs) (h2 : val xs = M) (h3 : xs.length ≤ k) : zl (intv s M) ≤ k := by rw [zl_intv]; exact lim_val h1 h2 h3
/-- However told: the bound may be another. -/
theorem z_as {z : Int} {k k' : Nat} (h : zl z ≤ k') : (T.Z z k).le (T.Z z k') := ex_le id fun _ _ => ⟨h, .refl _⟩
theorem made0 {s : Bool} {N k : Nat} (h : lim N = 0) : (T.st [T.c (.bool false), T.c (.slice none 0 0)]).le (T.Z (intv s N) k) := by
  have : N = 0 := Nat.eq_zero_of_not_pos fun h1 => by have := lim_ps h1; omega
  subst this
  rw [intv_zero]
  have e := z_of (s := false) (z := 0) (k := k) rfl (by rw [show zl 0 = 0 from by unfold zl; exact lim_zero]; omega)
  rw [show (0 : Int).natAbs = 0 from rfl, dig_zero] at e
  exact nil_st.trans e
theorem made1 {s : Bool} {N k : Nat} (h : 0 < lim N) (hk : lim N ≤ k) : (T.st [T.c (.bool s), T.l cU (dig N)]).le (T.Z (intv s N) k) := by
  have h0 : N ≠ 0 := fun e => by subst e; rw [lim_zero] at h; omega
  have e := z_of (s := s) (z := intv s N) (k := k) (intv_sgn s h0) (by rw [zl_intv]; exact hk)
  rwa [intv_natAbs] at e

theorem zi_made {s : Bool} {N k : Nat} (hk : k ≤ 17592186044416) : Fn Try.prog 78 [T.c (.bool s), T.L N k] [] [] [] (T.Z (intv s N) k) := by
  refine fn_of Try.func78 rfl (by show 2 ≤ 32; decide) fun cx hcx => ?_
  refine tri_sub (sl 0 rfl (sl 1 rfl sn)) en ?_
  refine tri_ex 1 rfl fun xs ⟨hl, hv, hb⟩ => ?_
  have hN := lim_val hl hv hb
  refine tri_seq ?_
  refine tri_reg mixed hcx ?_ _ _
  refine nw 10 zeZ ?_
  refine ⟨by kernel_rfl, ?_⟩
  refine nx (sl 0 rfl (sl 1 rfl (sl 4 rfl sn))) (el 10 rfl en) ?_
  refine tri_seq ?_
  refine tri_reg mixed hcx ?_ _ _
  refine mv rfl ?_
  refine ln slLs rfl ?_
  refine asg rfl ?_
  refine ⟨by kernel_rfl, ?_⟩
  refine nx (sl 0 rfl (sl 1 rfl (sl 4 rfl (sl 5 rfl sn)))) (el 10 rfl en) ?_
  refine tri_seq ?_
  refine tri_block ?_
  refine tri_loop (ι := Nat) (fun j => [(0, T.c (.bool s)), (1, T.l cU xs), (4, T.p 10 0), (5, T.c (.int .i64 (j : Int)))]) (fun j => [(10, some (Ent.box 27 [T.c (.bool false), T.c (.slice none 0 0)]))]) (fun j => j) (fun j => (j ≤ xs.length) ∧ (tl xs j = tl xs xs.length)) xs.length ⟨Nat.le_refl _, rfl⟩ (sl 0 rfl (sl 1 rfl (sl 4 rfl (sl 5 rfl sn)))) (el 10 rfl en) ?_
  rintro j ⟨hj, ht⟩
  refine tri_sub (sl 0 rfl (sl 1 rfl (sl 4 rfl (sl 5 rfl sn)))) (el 10 rfl en) ?_
  refine tri_seq ?_
  refine tri_seq ?_
  rcases Nat.eq_zero_or_pos j with h0 | h0
  · subst h0
    refine tri_reg mixed hcx ?_ _ _
    refine mv rfl ?_
    refine cgt rfl rfl (decide_eq_false (by omega)) ?_
    refine mv rfl ?_
    refine j_off rfl rfl rfl rfl ?_
    refine j_off rfl rfl rfl rfl ?_
    refine j_off rfl rfl rfl rfl ?_
    refine j_off rfl rfl rfl rfl ?_
    refine j_off rfl rfl rfl rfl ?_
    refine j_off rfl rfl rfl rfl ?_
    refine pk rfl rfl ?_
    refine ⟨by kernel_rfl, ?_⟩
    refine nx (sl 0 rfl (sl 1 rfl (sl 4 rfl (sl 5 rfl (sl 18 rfl sn))))) (el 10 rfl en) ?_
    refine tri_false rfl rfl ?_
    refine tri_exit ?_
    repeat (first | refine pn_then ?_ | refine pn_oth (by decide) ?_)
    refine pn_ex ?_
    refine nx (sl 0 rfl (sl 1 rfl (sl 4 rfl (sl 5 rfl sn)))) (el 10 rfl en) ?_
    refine tri_seq ?_
    refine tri_seq ?_
    have hkk : lim N = 0 := by rw [← tl_lim hl hv, ← ht]; rfl
    refine tri_reg mixed hcx ?_ _ _
    refine mv rfl ?_
    refine ceq rfl rfl (decide_eq_true (by omega)) ?_
    refine ⟨by kernel_rfl, ?_⟩
    refine nx (sl 0 rfl (sl 1 rfl (sl 4 rfl (sl 5 rfl (sl 22 rfl sn))))) (el 10 rfl en) ?_
    refine tri_true rfl rfl ?_
    refine tri_seq ?_
    refine tri_reg mixed hcx ?_ _ _
    refine bu stZ rfl ?_
    refine st rfl rfl rfl tyZ rfl ?_
    refine ⟨by kernel_rfl, ?_⟩
    refine nx (sl 4 rfl sn) (el 10 rfl en) ?_
    refine tri_ret ?_
    repeat (first | refine pn_thenr ?_ | refine pn_blkr ?_)
    exact ret1 hcx rfl (rv_cell (c' := cx) (n := 0) rfl rfl tyZ rfl) (made0 hkk) en
  · obtain ⟨m, rfl⟩ : ∃ m, j = m + 1 := ⟨j - 1, by omega⟩
    refine tri_reg mixed hcx ?_ _ _
    refine mv rfl ?_
    refine cgt rfl rfl (decide_eq_true (by omega)) ?_
    refine mv rfl ?_
    refine mv rfl ?_ (hg := gd1)
    refine mv rfl ?_ (hg := gd1)
    refine sb ((m : Int)) rfl rfl rfl (by omega) ?_ (hg := gd1)
    refine ix rfl rfl slLs ⟨rfl, by omega⟩ ?_ (hg := gd1)
    refine lf rfl tyU32 ?_ (hg := gd1)
    refine ceq rfl rfl rfl ?_ (hg := gd1)
    refine pk rfl rfl ?_
    refine ⟨by kernel_rfl, ?_⟩
    refine nx (sl 0 rfl (sl 1 rfl (sl 4 rfl (sl 5 rfl (sl 18 rfl sn))))) (el 10 rfl en) ?_
    refine tri_if rfl (fun hc => ?_) (fun hc => ?_)
    · rw [getD_at] at hc
      refine tri_skip ?_
      refine nx (sl 0 rfl (sl 1 rfl (sl 4 rfl (sl 5 rfl sn)))) (el 10 rfl en) ?_
      refine tri_block ?_
      refine tri_reg mixed hcx ?_ _ _
      refine mv rfl ?_
      refine sb _ rfl rfl rfl ⟨rfl, by omega, by omega⟩ ?_
      refine asg rfl ?_
      refine ⟨by kernel_rfl, ?_⟩
      refine pn_blk ?_
      exact pn_back m (by first | omega | (dsimp only; omega)) ⟨by omega, by rw [← ht]; simp [tl, hc]⟩ (sl 0 rfl (sl 1 rfl (sl 4 rfl (sw 5 rfl (ci (by omega)) sn)))) (el 10 rfl en)
    · rw [getD_at] at hc
      refine tri_exit ?_
      repeat (first | refine pn_then ?_ | refine pn_oth (by decide) ?_)
      refine pn_ex ?_
      refine nx (sl 0 rfl (sl 1 rfl (sl 4 rfl (sl 5 rfl sn)))) (el 10 rfl en) ?_
      refine tri_seq ?_
      refine tri_seq ?_
      have hkk : lim N = m + 1 := by rw [← tl_lim hl hv, ← ht]; simp [tl, hc]
      refine tri_reg mixed hcx ?_ _ _
      refine mv rfl ?_
      refine ceq rfl rfl (decide_eq_false (by omega)) ?_
      refine ⟨by kernel_rfl, ?_⟩
      refine nx (sl 0 rfl (sl 1 rfl (sl 4 rfl (sl 5 rfl (sl 22 rfl sn))))) (el 10 rfl en) ?_
      refine tri_false rfl rfl ?_
      refine tri_skip ?_
      refine nx (sl 0 rfl (sl 1 rfl (sl 4 rfl (sl 5 rfl sn)))) (el 10 rfl en) ?_
      refine tri_seq ?_
      refine tri_reg mixed hcx ?_ _ _
      refine mv rfl ?_
      refine mkz (c := cU) (n := m + 1) 611 slLs rfl (by omega) (fun u => ⟨zvU32, zrU u⟩) (by decide) ?_
      refine asg rfl ?_
      refine ⟨by kernel_rfl, ?_⟩
      refine nx (sl 0 rfl (sl 1 rfl (sl 4 rfl (sl 6 rfl sn)))) (el 10 rfl (el 611 rfl en)) ?_
      refine tri_seq ?_
      refine tri_reg mixed hcx ?_ _ _
      refine mv rfl ?_
      refine mv rfl ?_
      refine cpy rfl rfl rfl slLs (by rw [List.length_replicate]; omega) ?_
      refine ⟨by kernel_rfl, ?_⟩
      refine nx (sl 0 rfl (sl 4 rfl (sl 6 rfl sn))) (el 10 rfl (el 611 rfl en)) ?_
      refine tri_seq ?_
      refine tri_fz 611 rfl ?_
      refine tri_rd 6 611 rfl rfl ?_
      refine tri_as 6 (Z := T.l cU (dig N)) rfl (.of (by rw [List.length_replicate, ← hkk, ← tl_lim hl hv, trim_dig hl hv])) ?_
      refine tri_reg mixed hcx ?_ _ _
      refine mv rfl ?_
      refine mv rfl ?_
      refine bu stZ rfl ?_
      refine st rfl rfl rfl tyZ rfl ?_
      refine ⟨by kernel_rfl, ?_⟩
      refine nx (sl 4 rfl sn) (el 10 rfl (el 611 rfl en)) ?_
      refine tri_ret ?_
      repeat (first | refine pn_thenr ?_ | refine pn_blkr ?_)
      exact ret1 hcx rfl (rv_cell (c' := cx) (n := 0) rfl rfl tyZ rfl) (made1 (by omega) (by omega)) en

theorem zi_Form {z : Int} {k : Nat} (hk : k ≤ 17592186044416) : Fn Try.prog 72 [T.Zi z k] [] [] [] (T.Z z k) := by
  refine fn_of Try.func72 rfl (by show 1 ≤ 8; decide) fun cx hcx => ?_
  refine tri_sub (sl 0 rfl sn) en ?_
  refine tri_zi 0 rfl fun s0 M0 x0 hl0 hv0 hb0 hz0 hq0 => ?_
  subst hz0; have hB0 := lim_val hl0 hv0 hb0
  refine tri_seq ?_
  refine tri_reg mixed hcx ?_ _ _
  refine bxs 10 rfl ?_
  refine nw 11 zeZ ?_
  refine ⟨by kernel_rfl, ?_⟩
  refine nx (sl 1 rfl (sl 2 rfl sn)) (el 10 rfl (el 11 rfl en)) ?_
  refine tri_seq ?_
  refine tri_reg mixed hcx ?_ _ _
  refine fa rfl fNeg 0 ?_
  refine ld rfl rfl tyB rfl ?_
  refine fa rfl fMag 1 ?_
  refine ld rfl rfl tyLs rfl ?_
  refine ca rfl (h := zi_made (by omega)) (hn := ?_)
  refine st rfl rfl rfl tyZ rfl ?_
  refine ⟨by kernel_rfl, ?_⟩
  refine nx (sl 2 rfl sn) (el 10 rfl (el 11 rfl en)) ?_
  refine tri_ret ?_
  repeat (first | refine pn_thenr ?_ | refine pn_blkr ?_)
  exact ret1 hcx rfl (rv_cell (c' := cx) (n := 0) rfl rfl tyZ rfl) (.refl _) en

theorem zi_Neg {z : Int} {k : Nat} (hk : k ≤ 17592186044416) : Fn Try.prog 97 [T.Zi z k] [] [] [] (T.Z (-z) k) := by
  refine fn_of Try.func97 rfl (by show 1 ≤ 9; decide) fun cx hcx => ?_
  refine tri_sub (sl 0 rfl sn) en ?_
  refine tri_zi 0 rfl fun s0 M0 x0 hl0 hv0 hb0 hz0 hq0 => ?_
  subst hz0; have hB0 := lim_val hl0 hv0 hb0
  refine tri_seq ?_
  refine tri_reg mixed hcx ?_ _ _
  refine bxs 10 rfl ?_
  refine nw 11 zeZ ?_
  refine ⟨by kernel_rfl, ?_⟩
  refine nx (sl 1 rfl (sl 2 rfl sn)) (el 10 rfl (el 11 rfl en)) ?_
  refine tri_seq ?_
  refine tri_reg mixed hcx ?_ _ _
  refine fa rfl fNeg 0 ?_
  refine ld rfl rfl tyB rfl ?_
  refine nt rfl _ rfl ?_
  refine fa rfl fMag 1 ?_
  refine ld rfl rfl tyLs rfl ?_
  refine ca rfl (h := zi_made (by omega)) (hn := ?_)
  refine st rfl rfl rfl tyZ rfl ?_
  refine ⟨by kernel_rfl, ?_⟩
  refine nx (sl 2 rfl sn) (el 10 rfl (el 11 rfl en)) ?_
  refine tri_ret ?_
  repeat (first | refine pn_thenr ?_ | refine pn_blkr ?_)
  exact ret1 hcx rfl (rv_cell (c' := cx) (n := 0) rfl rfl tyZ rfl) (z_cast (intv_not _ _) (Nat.le_refl _)) en

theorem sgi_zero {s : Bool} {M : Nat} (h : M = 0) : sg (intv s M) = 0 := by rw [sg_intv, if_pos h]
theorem sgi_neg {M : Nat} (h : M ≠ 0) : sg (intv true M) = -1 := by rw [sg_intv, if_neg h]; rfl
theorem sgi_pos {M : Nat} (h : M ≠ 0) : sg (intv false M) = 1 := by rw [sg_intv, if_neg h]; rfl
theorem nbits_zero_iff (M : Nat) : ((nbits M : Nat) : Int) = 0 ↔ M = 0 := ⟨fun h => by have := lt_nbits M; rw [show nbits M = 0 by omega] at this; omega, fun h => by subst h; rfl⟩

theorem zi_Sign {z : Int} {k : Nat} (hk : k ≤ 17592186044416) : Fn Try.prog 47 [T.Zi z k] [] [] [] (T.c (.int .i64 (sg z))) := by
  refine fn_of Try.func47 rfl (by show 1 ≤ 11; decide) fun cx hcx => ?_
  refine tri_sub (sl 0 rfl sn) en ?_
  refine tri_zi 0 rfl fun s0 M0 x0 hl0 hv0 hb0 hz0 hq0 => ?_
  subst hz0; have hB0 := lim_val hl0 hv0 hb0
  refine tri_seq ?_
  refine tri_reg mixed hcx ?_ _ _
  refine bxs 10 rfl ?_
  refine asg rfl ?_
  refine ⟨by kernel_rfl, ?_⟩
  refine nx (sl 1 rfl sn) (el 10 rfl en) ?_
  refine tri_seq ?_
  refine tri_block ?_
  refine tri_seq ?_
  refine tri_reg mixed hcx ?_ _ _
  refine fa rfl fMag 1 ?_
  refine ld rfl rfl tyLs rfl ?_
  refine ca rfl (h := nat_Bits (by omega)) (hn := ?_)
  refine ceq rfl rfl rfl ?_
  refine asg rfl ?_
  refine ⟨by kernel_rfl, ?_⟩
  refine nx (sl 1 rfl (sl 3 rfl sn)) (el 10 rfl en) ?_
  refine tri_if rfl (fun hc => ?_) (fun hc => ?_)
  · rw [nbits_zero_iff] at hc
    refine tri_seq ?_
    refine tri_reg mixed hcx ?_ _ _
    refine asg rfl ?_
    refine ⟨by kernel_rfl, ?_⟩
    refine nx (sl 2 rfl sn) (el 10 rfl en) ?_
    refine tri_ret ?_
    repeat (first | refine pn_thenr ?_ | refine pn_blkr ?_)
    exact ret1 hcx rfl (rv_tmp rfl) (ci (sgi_zero hc).symm) en
  · rw [nbits_zero_iff] at hc
    refine tri_seq ?_
    rcases Bool.eq_false_or_eq_true s0 with h0 | h0
    · subst h0
      refine tri_reg mixed hcx ?_ _ _
      refine fa rfl fNeg 0 ?_
      refine ld rfl rfl tyB rfl ?_
      refine asg rfl ?_
      refine ⟨by kernel_rfl, ?_⟩
      refine nx (sl 8 rfl sn) (el 10 rfl en) ?_
      refine tri_true rfl rfl ?_
      refine tri_seq ?_
      refine tri_reg mixed hcx ?_ _ _
      refine asg rfl ?_
      refine ⟨by kernel_rfl, ?_⟩
      refine nx (sl 2 rfl sn) (el 10 rfl en) ?_
      refine tri_ret ?_
      repeat (first | refine pn_thenr ?_ | refine pn_blkr ?_)
      exact ret1 hcx rfl (rv_tmp rfl) (ci (sgi_neg hc).symm) en
    · subst h0
      refine tri_reg mixed hcx ?_ _ _
      refine fa rfl fNeg 0 ?_
      refine ld rfl rfl tyB rfl ?_
      refine asg rfl ?_
      refine ⟨by kernel_rfl, ?_⟩
      refine nx (sl 8 rfl sn) (el 10 rfl en) ?_
      refine tri_false rfl rfl ?_
      refine tri_skip ?_
      refine pn_blk ?_
      refine nx sn (el 10 rfl en) ?_
      refine tri_seq ?_
      refine tri_reg mixed hcx ?_ _ _
      refine asg rfl ?_
      refine ⟨by kernel_rfl, ?_⟩
      refine nx (sl 2 rfl sn) (el 10 rfl en) ?_
      refine tri_ret ?_
      repeat (first | refine pn_thenr ?_ | refine pn_blkr ?_)
      exact ret1 hcx rfl (rv_tmp rfl) (ci (sgi_pos hc).symm) en

theorem intv_diff {s t : Bool} (h : ¬ s = t) {M N : Nat} (h1 : N ≤ M) : intv s (M - N) = intv s M + intv t N := by cases s <;> cases t <;> simp [intv] at h ⊢ <;> omega

theorem zi_Add {a b : Int} {k l : Nat} (hk : k ≤ 4398046511104) (hl : l ≤ 4398046511104) : Fn Try.prog 96 [T.Zi a k, T.Zi b l] [] [] [] (T.Z (a + b) (k + l + 1)) := by
  refine fn_of Try.func96 rfl (by show 2 ≤ 40; decide) fun cx hcx => ?_
  refine tri_sub (sl 0 rfl (sl 1 rfl sn)) en ?_
  refine tri_zi 0 rfl fun s0 M0 x0 hl0 hv0 hb0 hz0 hq0 => ?_
  subst hz0; have hB0 := lim_val hl0 hv0 hb0
  refine tri_zi 1 rfl fun s1 M1 x1 hl1 hv1 hb1 hz1 hq1 => ?_
  subst hz1; have hB1 := lim_val hl1 hv1 hb1
  have hzA := zl_add (z_bd (s := s0) hl0 hv0 hb0) (z_bd (s := s1) hl1 hv1 hb1)
  have hlA := lim_add2 hB0 hB1
  refine tri_seq ?_
  refine tri_reg mixed hcx ?_ _ _
  refine bxs 10 rfl ?_
  refine bxs 11 rfl ?_
  refine nw 12 zeZ ?_
  refine ⟨by kernel_rfl, ?_⟩
  refine nx (sl 2 rfl (sl 3 rfl (sl 4 rfl sn))) (el 10 rfl (el 11 rfl (el 12 rfl en))) ?_
  refine tri_seq ?_
  refine tri_seq ?_
  by_cases hs : s0 = s1
  · subst hs
    refine tri_reg mixed hcx ?_ _ _
    refine fa rfl fNeg 0 ?_
    refine ld rfl rfl tyB rfl ?_
    refine fa rfl fNeg 0 ?_
    refine ld rfl rfl tyB rfl ?_
    refine eqb rfl rfl (beq_self_eq_true _) ?_
    refine ⟨by kernel_rfl, ?_⟩
    refine nx (sl 2 rfl (sl 3 rfl (sl 4 rfl (sl 11 rfl sn)))) (el 10 rfl (el 11 rfl (el 12 rfl en))) ?_
    refine tri_true rfl rfl ?_
    refine tri_seq ?_
    refine tri_reg mixed hcx ?_ _ _
    refine fa rfl fNeg 0 ?_
    refine ld rfl rfl tyB rfl ?_
    refine fa rfl fMag 1 ?_
    refine ld rfl rfl tyLs rfl ?_
    refine fa rfl fMag 1 ?_
    refine ld rfl rfl tyLs rfl ?_
    refine ca rfl (h := nat_Add (by omega) (by omega)) (hn := ?_)
    refine ca rfl (h := zi_made (by omega)) (hn := ?_)
    refine st rfl rfl rfl tyZ rfl ?_
    refine ⟨by kernel_rfl, ?_⟩
    refine nx (sl 4 rfl sn) (el 10 rfl (el 11 rfl (el 12 rfl en))) ?_
    refine tri_ret ?_
    repeat (first | refine pn_thenr ?_ | refine pn_blkr ?_)
    exact ret1 hcx rfl (rv_cell (c' := cx) (n := 0) rfl rfl tyZ rfl) ((z_cast (intv_add _ _ _).symm (Nat.le_refl _)).trans (z_as hzA)) en
  · refine tri_reg mixed hcx ?_ _ _
    refine fa rfl fNeg 0 ?_
    refine ld rfl rfl tyB rfl ?_
    refine fa rfl fNeg 0 ?_
    refine ld rfl rfl tyB rfl ?_
    refine eqb rfl rfl (beq_false_of_ne hs) ?_
    refine ⟨by kernel_rfl, ?_⟩
    refine nx (sl 2 rfl (sl 3 rfl (sl 4 rfl (sl 11 rfl sn)))) (el 10 rfl (el 11 rfl (el 12 rfl en))) ?_
    refine tri_false rfl rfl ?_
    refine tri_skip ?_
    refine nx (sl 2 rfl (sl 3 rfl (sl 4 rfl sn))) (el 10 rfl (el 11 rfl (el 12 rfl en))) ?_
    refine tri_seq ?_
    refine tri_seq ?_
    refine tri_reg mixed hcx ?_ _ _
    refine fa rfl fMag 1 ?_
    refine ld rfl rfl tyLs rfl ?_
    refine fa rfl fMag 1 ?_
    refine ld rfl rfl tyLs rfl ?_
    refine ca rfl (h := nat_Cmp (by omega) (by omega)) (hn := ?_)
    refine clt rfl rfl rfl ?_
    refine ⟨by kernel_rfl, ?_⟩
    refine nx (sl 2 rfl (sl 3 rfl (sl 4 rfl (sl 25 rfl sn)))) (el 10 rfl (el 11 rfl (el 12 rfl en))) ?_
    refine tri_if rfl (fun hc => ?_) (fun hc => ?_)
    · have hge := sgnc_neg hc; have hlD : lim (M1 - M0) ≤ l := Nat.le_trans (lim_mono (Nat.sub_le _ _)) hB1
      refine tri_reg mixed hcx ?_ _ _
      refine ld rfl rfl tyZ rfl ?_
      refine ld rfl rfl tyZ rfl ?_
      refine sts rfl rfl rfl tyZ rfl ?_
      refine sts rfl rfl rfl tyZ rfl ?_
      refine ⟨by kernel_rfl, ?_⟩
      refine nx (sl 2 rfl (sl 3 rfl (sl 4 rfl sn))) (el 10 rfl (el 11 rfl (el 12 rfl en))) ?_
      refine tri_seq ?_
      refine tri_reg mixed hcx ?_ _ _
      refine fa rfl fMag 1 ?_
      refine ld rfl rfl tyLs rfl ?_
      refine fa rfl fMag 1 ?_
      refine ld rfl rfl tyLs rfl ?_
      refine ca rfl (h := nat_Sub (by omega) (by omega) (by omega)) (hn := ?_)
      refine mv rfl ?_
      refine ex rfl rfl ?_
      refine ex rfl rfl ?_
      refine asg rfl ?_
      refine asg rfl ?_
      refine ⟨by kernel_rfl, ?_⟩
      refine nx (sl 2 rfl (sl 4 rfl (sl 5 rfl sn))) (el 10 rfl (el 11 rfl (el 12 rfl en))) ?_
      refine tri_seq ?_
      refine tri_reg mixed hcx ?_ _ _
      refine fa rfl fNeg 0 ?_
      refine ld rfl rfl tyB rfl ?_
      refine mv rfl ?_
      refine ca rfl (h := zi_made (by omega)) (hn := ?_)
      refine st rfl rfl rfl tyZ rfl ?_
      refine ⟨by kernel_rfl, ?_⟩
      refine nx (sl 4 rfl sn) (el 10 rfl (el 11 rfl (el 12 rfl en))) ?_
      refine tri_ret ?_
      repeat (first | refine pn_thenr ?_ | refine pn_blkr ?_)
      exact ret1 hcx rfl (rv_cell (c' := cx) (n := 0) rfl rfl tyZ rfl) ((z_cast ((intv_diff (fun h => hs h.symm) (by omega)).trans (Int.add_comm _ _)) (Nat.le_refl _)).trans (z_as hzA)) en
    · have hge := sgnc_nlt hc; have hlD : lim (M0 - M1) ≤ k := Nat.le_trans (lim_mono (Nat.sub_le _ _)) hB0
      refine tri_skip ?_
      refine nx (sl 2 rfl (sl 3 rfl (sl 4 rfl sn))) (el 10 rfl (el 11 rfl (el 12 rfl en))) ?_
      refine tri_seq ?_
      refine tri_reg mixed hcx ?_ _ _
      refine fa rfl fMag 1 ?_
      refine ld rfl rfl tyLs rfl ?_
      refine fa rfl fMag 1 ?_
      refine ld rfl rfl tyLs rfl ?_
      refine ca rfl (h := nat_Sub (by omega) (by omega) (by omega)) (hn := ?_)
      refine mv rfl ?_
      refine ex rfl rfl ?_
      refine ex rfl rfl ?_
      refine asg rfl ?_
      refine asg rfl ?_
      refine ⟨by kernel_rfl, ?_⟩
      refine nx (sl 2 rfl (sl 4 rfl (sl 5 rfl sn))) (el 10 rfl (el 11 rfl (el 12 rfl en))) ?_
      refine tri_seq ?_
      refine tri_reg mixed hcx ?_ _ _
      refine fa rfl fNeg 0 ?_
      refine ld rfl rfl tyB rfl ?_
      refine mv rfl ?_
      refine ca rfl (h := zi_made (by omega)) (hn := ?_)
      refine st rfl rfl rfl tyZ rfl ?_
      refine ⟨by kernel_rfl, ?_⟩
      refine nx (sl 4 rfl sn) (el 10 rfl (el 11 rfl (el 12 rfl en))) ?_
      refine tri_ret ?_
      repeat (first | refine pn_thenr ?_ | refine pn_blkr ?_)
      exact ret1 hcx rfl (rv_cell (c' := cx) (n := 0) rfl rfl tyZ rfl) ((z_cast (intv_diff hs hge) (Nat.le_refl _)).trans (z_as hzA)) en

theorem zi_Sub {a b : Int} {k l : Nat} (hk : k ≤ 4398046511104) (hl : l ≤ 4398046511104) : Fn Try.prog 95 [T.Zi a k, T.Zi b l] [] [] [] (T.Z (a - b) (k + l + 1)) := by
  refine fn_of Try.func95 rfl (by show 2 ≤ 9; decide) fun cx hcx => ?_
  refine tri_sub (sl 0 rfl (sl 1 rfl sn)) en ?_
  refine tri_seq ?_
  refine tri_reg mixed hcx ?_ _ _
  refine bx 10 rfl ?_
  refine bx 11 rfl ?_
  refine nw 12 zeZ ?_
  refine ⟨by kernel_rfl, ?_⟩
  refine nx (sl 2 rfl (sl 3 rfl (sl 4 rfl sn))) (el 10 rfl (el 11 rfl (el 12 rfl en))) ?_
  refine tri_seq ?_
  refine tri_reg mixed hcx ?_ _ _
  refine ld rfl rfl tyZ rfl ?_
  refine ld rfl rfl tyZ rfl ?_
  refine ca rfl (h := zi_Neg (by omega)) (hn := ?_)
  refine ca rfl (h := zi_Add (by omega) (by omega)) (hn := ?_)
  refine st rfl rfl rfl tyZ rfl ?_
  refine ⟨by kernel_rfl, ?_⟩
  refine nx (sl 4 rfl sn) (el 10 rfl (el 11 rfl (el 12 rfl en))) ?_
  refine tri_ret ?_
  repeat (first | refine pn_thenr ?_ | refine pn_blkr ?_)
  exact ret1 hcx rfl (rv_cell (c' := cx) (n := 0) rfl rfl tyZ rfl) (z_cast Int.sub_eq_add_neg.symm (Nat.le_refl _)) en

theorem zi_Mul {a b : Int} {k l : Nat} (hk : k ≤ 8796093022208) (hl : l ≤ 8796093022208) : Fn Try.prog 79 [T.Zi a k, T.Zi b l] [] [] [] (T.Z (a * b) (k + l)) := by
  refine fn_of Try.func79 rfl (by show 2 ≤ 16; decide) fun cx hcx => ?_
  refine tri_sub (sl 0 rfl (sl 1 rfl sn)) en ?_
  refine tri_zi 0 rfl fun s0 M0 x0 hl0 hv0 hb0 hz0 hq0 => ?_
  subst hz0; have hB0 := lim_val hl0 hv0 hb0
  refine tri_zi 1 rfl fun s1 M1 x1 hl1 hv1 hb1 hz1 hq1 => ?_
  subst hz1; have hB1 := lim_val hl1 hv1 hb1
  have hzA := zl_mul (z_bd (s := s0) hl0 hv0 hb0) (z_bd (s := s1) hl1 hv1 hb1)
  have hlA := Nat.le_trans (lim_mul M0 M1) (Nat.add_le_add hB0 hB1)
  refine tri_seq ?_
  refine tri_reg mixed hcx ?_ _ _
  refine bxs 10 rfl ?_
  refine bxs 11 rfl ?_
  refine nw 12 zeZ ?_
  refine ⟨by kernel_rfl, ?_⟩
  refine nx (sl 2 rfl (sl 3 rfl (sl 4 rfl sn))) (el 10 rfl (el 11 rfl (el 12 rfl en))) ?_
  refine tri_seq ?_
  refine tri_reg mixed hcx ?_ _ _
  refine fa rfl fNeg 0 ?_
  refine ld rfl rfl tyB rfl ?_
  refine fa rfl fNeg 0 ?_
  refine ld rfl rfl tyB rfl ?_
  refine neb rfl rfl rfl ?_
  refine fa rfl fMag 1 ?_
  refine ld rfl rfl tyLs rfl ?_
  refine fa rfl fMag 1 ?_
  refine ld rfl rfl tyLs rfl ?_
  refine ca rfl (h := nat_Mul (by omega) (by omega)) (hn := ?_)
  refine ca rfl (h := zi_made (by omega)) (hn := ?_)
  refine st rfl rfl rfl tyZ rfl ?_
  refine ⟨by kernel_rfl, ?_⟩
  refine nx (sl 4 rfl sn) (el 10 rfl (el 11 rfl (el 12 rfl en))) ?_
  refine tri_ret ?_
  repeat (first | refine pn_thenr ?_ | refine pn_blkr ?_)
  exact ret1 hcx rfl (rv_cell (c' := cx) (n := 0) rfl rfl tyZ rfl) ((z_cast (intv_mul _ _ _ _).symm (Nat.le_refl _)).trans (z_as hzA)) en

theorem zi_Gcd {a b : Int} {k l : Nat} (hk : k ≤ 1099511627776) (hl : l ≤ 1099511627776) : Fn Try.prog 98 [T.Zi a k, T.Zi b l] [] [] [] (T.Z ((Int.gcd a b : Nat) : Int) (max k l)) := by
  refine fn_of Try.func98 rfl (by show 2 ≤ 11; decide) fun cx hcx => ?_
  refine tri_sub (sl 0 rfl (sl 1 rfl sn)) en ?_
  refine tri_zi 0 rfl fun s0 M0 x0 hl0 hv0 hb0 hz0 hq0 => ?_
  subst hz0; have hB0 := lim_val hl0 hv0 hb0
  refine tri_zi 1 rfl fun s1 M1 x1 hl1 hv1 hb1 hz1 hq1 => ?_
  subst hz1; have hB1 := lim_val hl1 hv1 hb1
  have hlA := lim_gcd hB0 hB1; have hmx : max k l ≤ 1099511627776 := Nat.max_le.2 ⟨hk, hl⟩
  refine tri_seq ?_
  refine tri_reg mixed hcx ?_ _ _
  refine bxs 10 rfl ?_
  refine bxs 11 rfl ?_
  refine nw 12 zeZ ?_
  refine ⟨by kernel_rfl, ?_⟩
  refine nx (sl 2 rfl (sl 3 rfl (sl 4 rfl sn))) (el 10 rfl (el 11 rfl (el 12 rfl en))) ?_
  refine tri_seq ?_
  refine tri_reg mixed hcx ?_ _ _
  refine fa rfl fMag 1 ?_
  refine ld rfl rfl tyLs rfl ?_
  refine fa rfl fMag 1 ?_
  refine ld rfl rfl tyLs rfl ?_
  refine ca rfl (h := nat_Gcd (by omega) (by omega)) (hn := ?_)
  refine ca rfl (h := zi_made (by omega)) (hn := ?_)
  refine st rfl rfl rfl tyZ rfl ?_
  refine ⟨by kernel_rfl, ?_⟩
  refine nx (sl 4 rfl sn) (el 10 rfl (el 11 rfl (el 12 rfl en))) ?_
  refine tri_ret ?_
  repeat (first | refine pn_thenr ?_ | refine pn_blkr ?_)
  exact ret1 hcx rfl (rv_cell (c' := cx) (n := 0) rfl rfl tyZ rfl) ((z_cast (by rw [Int.gcd, intv_natAbs, intv_natAbs]; rfl) (Nat.le_refl _)).trans (z_as (by rw [Int.gcd, intv_natAbs, intv_natAbs]; exact hlA))) en

theorem cmp_mid {s t : Bool} {M N : Nat} (h1 : ¬ sg (intv s M) < sg (intv t N)) (h2 : ¬ sg (intv t N) < sg (intv s M)) : sg (intv s M) * sgnc (M : Int) N = sgnc (intv s M) (intv t N) := by
  have := cmp_same h1 h2
  rwa [intv_natAbs, intv_natAbs] at this

theorem two_limbs {u : Int} {N : Nat} (h : u = N) (h1 : u < 18446744073709551616) : Lim [u % 4294967296, u / 4294967296] ∧ val [u % 4294967296, u / 4294967296] = N :=
  ⟨Lim.cons (by omega) (by omega) (Lim.one (by omega) (by omega)), by rw [val_cons, val_one]; omega⟩
theorem intv_abs_neg {n : Int} (h : n < 0) : intv true n.natAbs = n := by show -((n.natAbs : Nat) : Int) = n; omega
theorem intv_abs_pos {n : Int} (h : ¬ n < 0) : intv false n.natAbs = n := by show ((n.natAbs : Nat) : Int) = n; omega
theorem set_last (k : Nat) (x : Int) : (List.replicate (k + 1) 0).set k x = List.replicate k 0 ++ [x] := by
  rw [List.replicate_succ', List.set_append_right _ _ (by simp)]
  simp

theorem zi_Of {n : Int} (h0 : -9223372036854775808 ≤ n) (h1 : n < 9223372036854775808) : Fn Try.prog 52 [T.c (.int .i64 n)] [] [] [] (T.Z n 2) := by
  refine fn_of Try.func52 rfl (by show 1 ≤ 19; decide) fun cx hcx => ?_
  refine tri_sub (sl 0 rfl sn) en ?_
  refine tri_seq ?_
  refine tri_reg mixed hcx ?_ _ _
  refine nw 10 zeZ ?_
  refine ⟨by kernel_rfl, ?_⟩
  refine nx (sl 0 rfl (sl 2 rfl sn)) (el 10 rfl en) ?_
  refine tri_seq ?_
  refine tri_reg mixed hcx ?_ _ _
  refine mv rfl ?_
  refine cvw (n % 18446744073709551616) rfl cvI64U64 rfl ?_
  refine asg rfl ?_
  refine ⟨by kernel_rfl, ?_⟩
  refine nx (sl 0 rfl (sl 2 rfl (sl 3 rfl sn))) (el 10 rfl en) ?_
  refine tri_seq ?_
  refine tri_seq ?_
  refine tri_reg mixed hcx ?_ _ _
  refine mv rfl ?_
  refine clt rfl rfl rfl ?_
  refine ⟨by kernel_rfl, ?_⟩
  refine nx (sl 0 rfl (sl 2 rfl (sl 3 rfl (sl 7 rfl sn)))) (el 10 rfl en) ?_
  refine tri_if rfl (fun hc => ?_) (fun hc => ?_)
  · refine tri_reg mixed hcx ?_ _ _
    refine mv rfl ?_
    refine ngm (-n) rfl (by omega) ?_
    refine asg rfl ?_
    refine ⟨by kernel_rfl, ?_⟩
    refine nx (sl 0 rfl (sl 2 rfl (sl 3 rfl sn))) (el 10 rfl en) ?_
    refine tri_seq ?_
    obtain ⟨hL1, hL2⟩ := two_limbs (u := -n) (N := n.natAbs) (by omega) (by omega); have hL3 : [-n % 4294967296, -n / 4294967296].length ≤ 2 := Nat.le_refl _
    refine tri_reg mixed hcx ?_ _ _
    refine mv rfl ?_
    refine clt rfl rfl (decide_eq_true (by omega)) ?_
    refine mv rfl ?_
    refine cvm _ rfl cvU64U32 rfl ?_
    refine mv rfl ?_
    refine shR (s := 32) (-n / 4294967296) rfl rfl rfl ⟨by omega, by omega, by decide⟩ ?_
    refine cvm (-n / 4294967296) rfl cvU64U32 (by omega) ?_
    refine bl2 rfl rfl slLs zvU32 ?_
    refine ca rfl (h := zi_made (by omega)) (hn := ?_)
    refine st rfl rfl rfl tyZ rfl ?_
    refine ⟨by kernel_rfl, ?_⟩
    refine nx (sl 2 rfl sn) (el 10 rfl en) ?_
    refine tri_ret ?_
    repeat (first | refine pn_thenr ?_ | refine pn_blkr ?_)
    exact ret1 hcx rfl (rv_cell (c' := cx) (n := 0) rfl rfl tyZ rfl) (z_cast (intv_abs_neg hc) (Nat.le_refl _)) en
  · refine tri_as 3 (Z := T.c (.int .u64 n)) rfl (ci (by omega)) ?_
    refine tri_skip ?_
    refine nx (sl 0 rfl (sl 2 rfl (sl 3 rfl sn))) (el 10 rfl en) ?_
    refine tri_seq ?_
    obtain ⟨hL1, hL2⟩ := two_limbs (u := n) (N := n.natAbs) (by omega) (by omega); have hL3 : [n % 4294967296, n / 4294967296].length ≤ 2 := Nat.le_refl _
    refine tri_reg mixed hcx ?_ _ _
    refine mv rfl ?_
    refine clt rfl rfl (decide_eq_false (by omega)) ?_
    refine mv rfl ?_
    refine cvm _ rfl cvU64U32 rfl ?_
    refine mv rfl ?_
    refine shR (s := 32) (n / 4294967296) rfl rfl rfl ⟨by omega, by omega, by decide⟩ ?_
    refine cvm (n / 4294967296) rfl cvU64U32 (by omega) ?_
    refine bl2 rfl rfl slLs zvU32 ?_
    refine ca rfl (h := zi_made (by omega)) (hn := ?_)
    refine st rfl rfl rfl tyZ rfl ?_
    refine ⟨by kernel_rfl, ?_⟩
    refine nx (sl 2 rfl sn) (el 10 rfl en) ?_
    refine tri_ret ?_
    repeat (first | refine pn_thenr ?_ | refine pn_blkr ?_)
    exact ret1 hcx rfl (rv_cell (c' := cx) (n := 0) rfl rfl tyZ rfl) (z_cast (intv_abs_pos hc) (Nat.le_refl _)) en

theorem zi_two {n : Nat} (hn : n ≤ 17592186044416) : Fn Try.prog 80 [T.c (.int .i64 (n : Int))] [] [] [] (T.l cU (dig (2 ^ n))) := by
  refine fn_of Try.func80 rfl (by show 1 ≤ 16; decide) fun cx hcx => ?_
  refine tri_sub (sl 0 rfl sn) en ?_
  have hr : n % 32 < 32 := by omega
  have l6 := pow2_le hr; have l7 := pow2_pos (n % 32)
  refine tri_seq ?_
  refine tri_reg mixed hcx ?_ _ _
  refine asg rfl ?_
  refine ⟨by kernel_rfl, ?_⟩
  refine nx (sl 0 rfl sn) en ?_
  refine tri_seq ?_
  refine tri_reg mixed hcx ?_ _ _
  refine mv rfl ?_
  refine qo (((n / 32 : Nat) : Int)) rfl rfl rfl (by omega) ?_
  refine ad (((n / 32 + 1 : Nat) : Int)) rfl rfl rfl (by omega) ?_
  refine mkz (c := cU) (n := n / 32 + 1) 113 slLs rfl (by omega) (fun u => ⟨zvU32, zrU u⟩) (by decide) ?_
  refine asg rfl ?_
  refine ⟨by kernel_rfl, ?_⟩
  refine nx (sl 0 rfl (sl 3 rfl sn)) (el 113 rfl en) ?_
  refine tri_seq ?_
  refine tri_reg mixed hcx ?_ _ _
  refine mv rfl ?_
  refine mv rfl ?_
  refine qo (((n / 32 : Nat) : Int)) rfl rfl rfl (by omega) ?_
  refine mv rfl ?_
  refine re (((n % 32 : Nat) : Int)) rfl rfl (by omega) ?_
  refine shL (s := n % 32) ((2 : Int) ^ (n % 32)) rfl rfl rfl rfl ⟨Int.one_mul _, by omega, by omega, (by show n % 32 ≤ 32; omega)⟩ ?_
  refine ixo rfl rfl rfl slLs ⟨rfl, by rw [List.length_replicate]; omega⟩ ?_
  refine so rfl rfl rfl (.refl _) tyU32 (i := n / 32) ⟨rfl, by rw [List.length_replicate]; omega⟩ ?_
  refine ⟨by kernel_rfl, ?_⟩
  refine nx (sl 3 rfl sn) (el 113 rfl en) ?_
  refine tri_seq ?_
  refine tri_reg mixed hcx ?_ _ _
  refine mv rfl ?_
  refine asg rfl ?_
  refine ⟨by kernel_rfl, ?_⟩
  refine nx (sl 2 rfl sn) (el 113 rfl en) ?_
  refine tri_fz 113 rfl ?_
  refine tri_rd 2 113 rfl rfl ?_
  refine tri_ret ?_
  repeat (first | refine pn_thenr ?_ | refine pn_blkr ?_)
  exact ret1 hcx rfl (rv_tmp rfl) (.of (by rw [show cU.dflt = 0 from rfl, set_last, two_dig])) en

theorem fl_bd {s1 s2 : Bool} {M N : Nat} (hN : 0 < N) (h : intv s1 (M % N) ≠ 0 ∧ sg (intv s1 (M % N)) ≠ sg (intv s2 N)) : (intv s1 (M % N) + intv s2 N).natAbs ≤ N := by
  have l := Nat.mod_lt M hN
  rw [sg_intv, sg_intv] at h
  generalize M % N = r at *
  cases s1 <;> cases s2 <;> simp [intv] at h ⊢ <;> omega
theorem intv_ne {s : Bool} {M : Nat} (h : intv s M ≠ 0) : 0 < M := Nat.pos_of_ne_zero fun e => h (by subst e; exact intv_zero s)

theorem zi_Floor {a b : Int} {k l : Nat} (hb : b ≠ 0) (hk : k ≤ 1099511627776) (hl : l ≤ 1099511627776) : Fn Try.prog 81 [T.Zi a k, T.Zi b l] [] [] [] (T.tup [T.Z (Int.fdiv a b) (k + 3), T.Z (Int.fmod a b) l, T.c (.int .i64 0)]) := by
  refine fn_of Try.func81 rfl (by show 2 ≤ 54; decide) fun cx hcx => ?_
  refine tri_sub (sl 0 rfl (sl 1 rfl sn)) en ?_
  refine tri_zi 0 rfl fun s0 M0 x0 hl0 hv0 hb0 hz0 hq0 => ?_
  subst hz0; have hB0 := lim_val hl0 hv0 hb0
  refine tri_zi 1 rfl fun s1 M1 x1 hl1 hv1 hb1 hz1 hq1 => ?_
  subst hz1; have hB1 := lim_val hl1 hv1 hb1
  have hM1 := intv_ne hb
  have hlq : lim (M0 / M1) ≤ k := Nat.le_trans (lim_mono (Nat.div_le_self _ _)) hB0; have hlr : lim (M0 % M1) ≤ l := Nat.le_trans (lim_mono (Nat.le_of_lt (Nat.mod_lt _ hM1))) hB1
  refine tri_seq ?_
  refine tri_reg mixed hcx ?_ _ _
  refine bxs 10 rfl ?_
  refine bxs 11 rfl ?_
  refine nw 12 zeZ ?_
  refine nw 13 zeZ ?_
  refine asg rfl ?_
  refine ⟨by kernel_rfl, ?_⟩
  refine nx (sl 2 rfl (sl 3 rfl (sl 4 rfl (sl 5 rfl sn)))) (el 10 rfl (el 11 rfl (el 12 rfl (el 13 rfl en)))) ?_
  refine tri_seq ?_
  refine tri_reg mixed hcx ?_ _ _
  refine fa rfl fMag 1 ?_
  refine ld rfl rfl tyLs rfl ?_
  refine fa rfl fMag 1 ?_
  refine ld rfl rfl tyLs rfl ?_
  refine ca rfl (h := nat_Div (by omega) (by omega) (by omega)) (hn := ?_)
  refine mv rfl ?_
  refine ex rfl rfl ?_
  refine ex rfl rfl ?_
  refine ex rfl rfl ?_
  refine asg rfl ?_
  refine asg rfl ?_
  refine asg rfl ?_
  refine ⟨by kernel_rfl, ?_⟩
  refine nx (sl 2 rfl (sl 3 rfl (sl 4 rfl (sl 5 rfl (sl 7 rfl (sl 8 rfl (sl 9 rfl sn))))))) (el 10 rfl (el 11 rfl (el 12 rfl (el 13 rfl en)))) ?_
  refine tri_seq ?_
  refine tri_seq ?_
  refine tri_reg mixed hcx ?_ _ _
  refine mv rfl ?_
  refine cne rfl rfl (decide_eq_false (by omega)) ?_
  refine ⟨by kernel_rfl, ?_⟩
  refine nx (sl 2 rfl (sl 3 rfl (sl 4 rfl (sl 5 rfl (sl 7 rfl (sl 8 rfl (sl 22 rfl sn))))))) (el 10 rfl (el 11 rfl (el 12 rfl (el 13 rfl en)))) ?_
  refine tri_false rfl rfl ?_
  refine tri_skip ?_
  refine nx (sl 2 rfl (sl 3 rfl (sl 4 rfl (sl 5 rfl (sl 7 rfl (sl 8 rfl sn)))))) (el 10 rfl (el 11 rfl (el 12 rfl (el 13 rfl en)))) ?_
  refine tri_seq ?_
  refine tri_reg mixed hcx ?_ _ _
  refine fa rfl fNeg 0 ?_
  refine ld rfl rfl tyB rfl ?_
  refine fa rfl fNeg 0 ?_
  refine ld rfl rfl tyB rfl ?_
  refine neb rfl rfl rfl ?_
  refine mv rfl ?_
  refine ca rfl (h := zi_made (by omega)) (hn := ?_)
  refine fa rfl fNeg 0 ?_
  refine ld rfl rfl tyB rfl ?_
  refine mv rfl ?_
  refine ca rfl (h := zi_made (by omega)) (hn := ?_)
  refine nw 421 zeZ ?_
  refine nw 422 zeZ ?_
  refine st rfl rfl rfl tyZ rfl ?_
  refine st rfl rfl rfl tyZ rfl ?_
  refine ⟨by kernel_rfl, ?_⟩
  refine nx (sl 3 rfl (sl 4 rfl (sl 5 rfl (sl 10 rfl (sl 11 rfl sn))))) (el 10 rfl (el 11 rfl (el 12 rfl (el 13 rfl (el 421 rfl (el 422 rfl en)))))) ?_
  refine tri_seq ?_
  refine tri_seq ?_
  by_cases h0 : sg (intv s0 (M0 % M1)) = 0
  · have hf := floor_no s0 s1 M0 M1 hM1 (fun h => h.1 (sg_eq_zero.1 h0))
    refine tri_reg mixed hcx ?_ _ _
    refine ld rfl rfl tyZ rfl ?_
    refine ca rfl (h := zi_Sign (by omega)) (hn := ?_)
    refine cne rfl rfl (decide_eq_false (by omega)) ?_
    refine mv rfl ?_
    refine j_off rfl rfl rfl rfl ?_
    refine j_off rfl rfl rfl rfl ?_
    refine j_off rfl rfl rfl rfl ?_
    refine j_off rfl rfl rfl rfl ?_
    refine j_off rfl rfl rfl rfl ?_
    refine pk rfl rfl ?_
    refine ⟨by kernel_rfl, ?_⟩
    refine nx (sl 3 rfl (sl 4 rfl (sl 5 rfl (sl 10 rfl (sl 11 rfl (sl 45 rfl sn)))))) (el 10 rfl (el 11 rfl (el 12 rfl (el 13 rfl (el 421 rfl (el 422 rfl en)))))) ?_
    refine tri_false rfl rfl ?_
    refine tri_skip ?_
    refine nx (sl 4 rfl (sl 5 rfl (sl 10 rfl (sl 11 rfl sn)))) (el 10 rfl (el 11 rfl (el 12 rfl (el 13 rfl (el 421 rfl (el 422 rfl en)))))) ?_
    refine tri_seq ?_
    refine tri_reg mixed hcx ?_ _ _
    refine ld rfl rfl tyZ rfl ?_
    refine ld rfl rfl tyZ rfl ?_
    refine st rfl rfl rfl tyZ rfl ?_
    refine st rfl rfl rfl tyZ rfl ?_
    refine asg rfl ?_
    refine ⟨by kernel_rfl, ?_⟩
    refine nx (sl 4 rfl (sl 5 rfl (sl 6 rfl sn))) (el 10 rfl (el 11 rfl (el 12 rfl (el 13 rfl (el 421 rfl (el 422 rfl en)))))) ?_
    refine tri_ret ?_
    repeat (first | refine pn_thenr ?_ | refine pn_blkr ?_)
    exact ret3 hcx rfl (rv_cell (c' := cx) (n := 0) rfl rfl tyZ rfl) (rv_cell (c' := cx) (n := 0) rfl rfl tyZ rfl) (rv_tmp rfl) (tup_le ⟨z_cast hf.1.symm (by omega), z_cast hf.2.symm hlr, .refl _, trivial⟩) en
  · refine tri_reg mixed hcx ?_ _ _
    refine ld rfl rfl tyZ rfl ?_
    refine ca rfl (h := zi_Sign (by omega)) (hn := ?_)
    refine cne rfl rfl (decide_eq_true (by omega)) ?_
    refine mv rfl ?_
    refine ld rfl rfl tyZ rfl ?_ (hg := gd1)
    refine ca rfl (h := zi_Sign (by omega)) (hn := ?_) (hg := gd1)
    refine ld rfl rfl tyZ rfl ?_ (hg := gd1)
    refine ca rfl (h := zi_Sign (by omega)) (hn := ?_) (hg := gd1)
    refine cne rfl rfl rfl ?_ (hg := gd1)
    refine pk rfl rfl ?_
    refine ⟨by kernel_rfl, ?_⟩
    refine nx (sl 3 rfl (sl 4 rfl (sl 5 rfl (sl 10 rfl (sl 11 rfl (sl 45 rfl sn)))))) (el 10 rfl (el 11 rfl (el 12 rfl (el 13 rfl (el 421 rfl (el 422 rfl en)))))) ?_
    refine tri_if rfl (fun hc => ?_) (fun hc => ?_)
    · have hf := floor_yes s0 s1 M0 M1 hM1 ⟨fun h => h0 (sg_eq_zero.2 h), hc⟩; have hfb := fl_bd hM1 ⟨fun h => h0 (sg_eq_zero.2 h), hc⟩
      refine tri_reg mixed hcx ?_ _ _
      refine ld rfl rfl tyZ rfl ?_
      refine ca rfl (h := zi_Of (by omega) (by omega)) (hn := ?_)
      refine ca rfl (h := zi_Sub (by omega) (by omega)) (hn := ?_)
      refine ld rfl rfl tyZ rfl ?_
      refine ld rfl rfl tyZ rfl ?_
      refine ca rfl (h := zi_Add (by omega) (by omega)) (hn := ?_)
      refine st rfl rfl rfl tyZ rfl ?_
      refine st rfl rfl rfl tyZ rfl ?_
      refine ⟨by kernel_rfl, ?_⟩
      refine nx (sl 4 rfl (sl 5 rfl (sl 10 rfl (sl 11 rfl sn)))) (el 10 rfl (el 11 rfl (el 12 rfl (el 13 rfl (el 421 rfl (el 422 rfl en)))))) ?_
      refine tri_seq ?_
      refine tri_reg mixed hcx ?_ _ _
      refine ld rfl rfl tyZ rfl ?_
      refine ld rfl rfl tyZ rfl ?_
      refine st rfl rfl rfl tyZ rfl ?_
      refine st rfl rfl rfl tyZ rfl ?_
      refine asg rfl ?_
      refine ⟨by kernel_rfl, ?_⟩
      refine nx (sl 4 rfl (sl 5 rfl (sl 6 rfl sn))) (el 10 rfl (el 11 rfl (el 12 rfl (el 13 rfl (el 421 rfl (el 422 rfl en)))))) ?_
      refine tri_ret ?_
      repeat (first | refine pn_thenr ?_ | refine pn_blkr ?_)
      exact ret3 hcx rfl (rv_cell (c' := cx) (n := 0) rfl rfl tyZ rfl) (rv_cell (c' := cx) (n := 0) rfl rfl tyZ rfl) (rv_tmp rfl) (tup_le ⟨z_cast hf.1.symm (by omega), (z_cast hf.2.symm (Nat.le_refl _)).trans (z_as (by rw [hf.2]; exact Nat.le_trans (lim_mono hfb) hB1)), .refl _, trivial⟩) en
    · have hf := floor_no s0 s1 M0 M1 hM1 (fun h => hc h.2)
      refine tri_skip ?_
      refine nx (sl 4 rfl (sl 5 rfl (sl 10 rfl (sl 11 rfl sn)))) (el 10 rfl (el 11 rfl (el 12 rfl (el 13 rfl (el 421 rfl (el 422 rfl en)))))) ?_
      refine tri_seq ?_
      refine tri_reg mixed hcx ?_ _ _
      refine ld rfl rfl tyZ rfl ?_
      refine ld rfl rfl tyZ rfl ?_
      refine st rfl rfl rfl tyZ rfl ?_
      refine st rfl rfl rfl tyZ rfl ?_
      refine asg rfl ?_
      refine ⟨by kernel_rfl, ?_⟩
      refine nx (sl 4 rfl (sl 5 rfl (sl 6 rfl sn))) (el 10 rfl (el 11 rfl (el 12 rfl (el 13 rfl (el 421 rfl (el 422 rfl en)))))) ?_
      refine tri_ret ?_
      repeat (first | refine pn_thenr ?_ | refine pn_blkr ?_)
      exact ret3 hcx rfl (rv_cell (c' := cx) (n := 0) rfl rfl tyZ rfl) (rv_cell (c' := cx) (n := 0) rfl rfl tyZ rfl) (rv_tmp rfl) (tup_le ⟨z_cast hf.1.symm (by omega), z_cast hf.2.symm hlr, .refl _, trivial⟩) en

theorem exact_div {a b : Int} (hd : b ∣ a) : Int.fdiv a b = a / b ∧ Int.fmod a b = 0 := ⟨Int.fdiv_eq_ediv_of_dvd hd, Int.fmod_eq_zero_of_dvd hd⟩

theorem zi_Exact {a b : Int} {k l : Nat} (hb : b ≠ 0) (hd : b ∣ a) (hk : k ≤ 1099511627776) (hl : l ≤ 1099511627776) : Fn Try.prog 99 [T.Zi a k, T.Zi b l] [] [] [] (T.tup [T.Z (a / b) k, T.c (.int .i64 0)]) := by
  refine fn_of Try.func99 rfl (by show 2 ≤ 27; decide) fun cx hcx => ?_
  refine tri_sub (sl 0 rfl (sl 1 rfl sn)) en ?_
  refine tri_zi 0 rfl fun s0 M0 x0 hl0 hv0 hb0 hz0 hq0 => ?_
  subst hz0; have hB0 := lim_val hl0 hv0 hb0
  refine tri_zi 1 rfl fun s1 M1 x1 hl1 hv1 hb1 hz1 hq1 => ?_
  subst hz1; have hB1 := lim_val hl1 hv1 hb1
  have he := exact_div hd; have hzz := zl_div (intv s1 M1) (z_bd (s := s0) hl0 hv0 hb0)
  refine tri_seq ?_
  refine tri_reg mixed hcx ?_ _ _
  refine bxs 10 rfl ?_
  refine bxs 11 rfl ?_
  refine nw 12 zeZ ?_
  refine asg rfl ?_
  refine ⟨by kernel_rfl, ?_⟩
  refine nx (sl 2 rfl (sl 3 rfl (sl 4 rfl sn))) (el 10 rfl (el 11 rfl (el 12 rfl en))) ?_
  refine tri_seq ?_
  refine tri_reg mixed hcx ?_ _ _
  refine ld rfl rfl tyZ rfl ?_
  refine ld rfl rfl tyZ rfl ?_
  refine ca rfl (h := zi_Floor (by assumption) (by omega) (by omega)) (hn := ?_)
  refine mv rfl ?_
  refine ex rfl rfl ?_
  refine ex rfl rfl ?_
  refine ex rfl rfl ?_
  refine nw 117 zeZ ?_
  refine nw 118 zeZ ?_
  refine st rfl rfl rfl tyZ rfl ?_
  refine st rfl rfl rfl tyZ rfl ?_
  refine asg rfl ?_
  refine ⟨by kernel_rfl, ?_⟩
  refine nx (sl 4 rfl (sl 6 rfl (sl 7 rfl (sl 8 rfl sn)))) (el 10 rfl (el 11 rfl (el 12 rfl (el 117 rfl (el 118 rfl en))))) ?_
  refine tri_seq ?_
  refine tri_block ?_
  refine tri_seq ?_
  refine tri_reg mixed hcx ?_ _ _
  refine mv rfl ?_
  refine cne rfl rfl (decide_eq_false (by omega)) ?_
  refine asg rfl ?_
  refine ⟨by kernel_rfl, ?_⟩
  refine nx (sl 4 rfl (sl 6 rfl (sl 7 rfl (sl 8 rfl (sl 16 rfl sn))))) (el 10 rfl (el 11 rfl (el 12 rfl (el 117 rfl (el 118 rfl en))))) ?_
  refine tri_false rfl rfl ?_
  refine tri_seq ?_
  refine tri_reg mixed hcx ?_ _ _
  refine ld rfl rfl tyZ rfl ?_
  refine ca rfl (h := zi_Sign (by omega)) (hn := ?_)
  refine cne rfl rfl (decide_eq_false (by rw [he.2, sg_zero]; decide)) ?_
  refine asg rfl ?_
  refine ⟨by kernel_rfl, ?_⟩
  refine nx (sl 4 rfl (sl 6 rfl (sl 21 rfl sn))) (el 10 rfl (el 11 rfl (el 12 rfl (el 117 rfl (el 118 rfl en))))) ?_
  refine tri_false rfl rfl ?_
  refine tri_skip ?_
  refine pn_blk ?_
  refine nx (sl 4 rfl (sl 6 rfl sn)) (el 10 rfl (el 11 rfl (el 12 rfl (el 117 rfl (el 118 rfl en))))) ?_
  refine tri_seq ?_
  refine tri_reg mixed hcx ?_ _ _
  refine ld rfl rfl tyZ rfl ?_
  refine st rfl rfl rfl tyZ rfl ?_
  refine asg rfl ?_
  refine ⟨by kernel_rfl, ?_⟩
  refine nx (sl 4 rfl (sl 5 rfl sn)) (el 10 rfl (el 11 rfl (el 12 rfl (el 117 rfl (el 118 rfl en))))) ?_
  refine tri_ret ?_
  repeat (first | refine pn_thenr ?_ | refine pn_blkr ?_)
  exact ret2 hcx rfl (rv_cell (c' := cx) (n := 0) rfl rfl tyZ rfl) (rv_tmp rfl) (tup_le ⟨(z_cast he.1 (Nat.le_refl _)).trans (z_as hzz), .refl _, trivial⟩) en
end Go.Proofs.Ytlmiadjogdfjkaa.V
