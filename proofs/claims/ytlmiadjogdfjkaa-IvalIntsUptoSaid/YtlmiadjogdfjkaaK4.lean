/- Contracts of the document: limbs. -/
import Derived.Test.YtlmiadjogdfjkaaK3
set_option linter.unusedVariables false
set_option linter.unusedSimpArgs false
set_option maxRecDepth 100000
namespace Go.Proofs.Ytlmiadjogdfjkaa.V
open Go.RowKit Mt Nml
theorem take_snoc' {xs : List Int} {k : Nat} (h : k < xs.length) : xs.take k ++ [xs.getD k cU.dflt] = xs.take (k + 1) := by
  rw [List.take_add_one, List.getD_eq_getElem?_getD, List.getElem?_eq_getElem h]; rfl

theorem r01_most {a b : Nat} : Fn Try.prog 88 [T.c (.int .i64 (a : Int)), T.c (.int .i64 (b : Int))] [] [] [] (T.c (.int .i64 ((max a b : Nat) : Int))) := by
  refine fn_of Try.func88 rfl (by show 2 ≤ 10; decide) fun cx hcx => ?_
  refine tri_sub (sl 0 rfl (sl 1 rfl sn)) en ?_
  refine tri_seq ?_
  refine tri_reg mixed hcx ?_ _ _
  refine asg rfl ?_
  refine ⟨by kernel_rfl, ?_⟩
  refine nx (sl 0 rfl (sl 1 rfl sn)) en ?_
  refine tri_seq ?_
  refine tri_seq ?_
  refine tri_reg mixed hcx ?_ _ _
  refine mv rfl ?_
  refine mv rfl ?_
  refine cgt rfl rfl rfl ?_
  refine ⟨by kernel_rfl, ?_⟩
  refine nx (sl 0 rfl (sl 1 rfl (sl 7 rfl sn))) en ?_
  refine tri_if rfl (fun hc => ?_) (fun hc => ?_)
  · refine tri_seq ?_
    refine tri_reg mixed hcx ?_ _ _
    refine mv rfl ?_
    refine asg rfl ?_
    refine ⟨by kernel_rfl, ?_⟩
    refine nx (sl 4 rfl sn) en ?_
    refine tri_ret ?_
    repeat (first | refine pn_thenr ?_ | refine pn_blkr ?_)
    exact ret1 hcx rfl (rv_tmp rfl) (ci (by omega)) en
  · refine tri_skip ?_
    refine nx (sl 1 rfl sn) en ?_
    refine tri_seq ?_
    refine tri_reg mixed hcx ?_ _ _
    refine mv rfl ?_
    refine asg rfl ?_
    refine ⟨by kernel_rfl, ?_⟩
    refine nx (sl 4 rfl sn) en ?_
    refine tri_ret ?_
    repeat (first | refine pn_thenr ?_ | refine pn_blkr ?_)
    exact ret1 hcx rfl (rv_tmp rfl) (ci (by omega)) en

theorem r01_limb {xs : List Int} {k : Nat} (hl : Lim xs) : Fn Try.prog 85 [T.l cU xs, T.c (.int .i64 (k : Int))] [] [] [] (T.c (.int .u64 (xs.getD k cU.dflt))) := by
  refine fn_of Try.func85 rfl (by show 2 ≤ 14; decide) fun cx hcx => ?_
  refine tri_sub (sl 0 rfl (sl 1 rfl sn)) en ?_
  have bx := gd hl k
  refine tri_seq ?_
  refine tri_reg mixed hcx ?_ _ _
  refine asg rfl ?_
  refine ⟨by kernel_rfl, ?_⟩
  refine nx (sl 0 rfl (sl 1 rfl sn)) en ?_
  refine tri_seq ?_
  refine tri_seq ?_
  refine tri_reg mixed hcx ?_ _ _
  refine mv rfl ?_
  refine mv rfl ?_
  refine ln slLs rfl ?_
  refine clt rfl rfl rfl ?_
  refine ⟨by kernel_rfl, ?_⟩
  refine nx (sl 0 rfl (sl 1 rfl (sl 8 rfl sn))) en ?_
  refine tri_if rfl (fun hc => ?_) (fun hc => ?_)
  · refine tri_seq ?_
    refine tri_reg mixed hcx ?_ _ _
    refine mv rfl ?_
    refine mv rfl ?_
    refine ix rfl rfl slLs ⟨rfl, by omega⟩ ?_
    refine lf rfl tyU32 ?_
    refine cvt _ rfl cvU32U64 rfl ⟨rfl, by omega, by omega⟩ ?_
    refine asg rfl ?_
    refine ⟨by kernel_rfl, ?_⟩
    refine nx (sl 4 rfl sn) en ?_
    refine tri_ret ?_
    repeat (first | refine pn_thenr ?_ | refine pn_blkr ?_)
    exact ret1 hcx rfl (rv_tmp rfl) (.refl _) en
  · refine tri_skip ?_
    refine nx sn en ?_
    refine tri_seq ?_
    refine tri_reg mixed hcx ?_ _ _
    refine asg rfl ?_
    refine ⟨by kernel_rfl, ?_⟩
    refine nx (sl 4 rfl sn) en ?_
    refine tri_ret ?_
    repeat (first | refine pn_thenr ?_ | refine pn_blkr ?_)
    exact ret1 hcx rfl (rv_tmp rfl) (ci (show (0 : Int) = at_ xs k from (at_ge (by omega)).symm)) en

theorem r01_Norm {N k : Nat} (hk : k ≤ 17592186044416) : Fn Try.prog 49 [T.L N k] [] [] [] (T.l cU (dig N)) := by
  refine fn_of Try.func49 rfl (by show 1 ≤ 33; decide) fun cx hcx => ?_
  refine tri_sub (sl 0 rfl sn) en ?_
  refine tri_ex 0 rfl fun xs ⟨hl, hv, hb⟩ => ?_
  refine tri_seq ?_
  refine tri_reg mixed hcx ?_ _ _
  refine asg rfl ?_
  refine ⟨by kernel_rfl, ?_⟩
  refine nx (sl 0 rfl sn) en ?_
  refine tri_seq ?_
  refine tri_reg mixed hcx ?_ _ _
  refine mv rfl ?_
  refine ln slLs rfl ?_
  refine asg rfl ?_
  refine ⟨by kernel_rfl, ?_⟩
  refine nx (sl 0 rfl (sl 3 rfl sn)) en ?_
  refine tri_join (ι := Unit) (fun _ => [(0, T.l cU xs), (3, T.c (.int .i64 ((tl xs xs.length : Nat) : Int)))]) (fun _ => []) (fun _ => True) ?_ ?_
  · refine tri_block ?_
    refine tri_loop (ι := Nat) (fun j => [(0, T.l cU xs), (3, T.c (.int .i64 (j : Int)))]) (fun j => []) (fun j => j) (fun j => (j ≤ xs.length) ∧ (tl xs j = tl xs xs.length)) xs.length ⟨Nat.le_refl _, rfl⟩ (sl 0 rfl (sl 3 rfl sn)) en ?_
    rintro j ⟨hj, ht⟩
    refine tri_sub (sl 0 rfl (sl 3 rfl sn)) en ?_
    refine tri_seq ?_
    refine tri_seq ?_
    rcases Nat.eq_zero_or_pos j with h0 | h0
    · subst h0
      refine tri_reg mixed hcx ?_ _ _
      refine mv rfl ?_
      refine cgt rfl rfl (decide_eq_false (by omega)) ?_
      refine mv rfl ?_
      refine j_off rfl rfl rfl rfl ?_
      refine j_off rfl rfl rfl rfl ?_
      refine j_off rfl rfl rfl rfl ?_
      refine j_off rfl rfl rfl rfl ?_
      refine j_off rfl rfl rfl rfl ?_
      refine j_off rfl rfl rfl rfl ?_
      refine pk rfl rfl ?_
      refine ⟨by kernel_rfl, ?_⟩
      refine nx (sl 0 rfl (sl 3 rfl (sl 17 rfl sn))) en ?_
      refine tri_false rfl rfl ?_
      refine tri_exit ?_
      repeat (first | refine pn_then ?_ | refine pn_oth (by decide) ?_)
      refine pn_ex ?_
      exact pn_join () trivial (sl 0 rfl (sw 3 rfl (ci (by rw [← ht]; first | rfl | simp [tl, hc])) sn)) en
    · obtain ⟨m, rfl⟩ : ∃ m, j = m + 1 := ⟨j - 1, by omega⟩
      refine tri_reg mixed hcx ?_ _ _
      refine mv rfl ?_
      refine cgt rfl rfl (decide_eq_true (by omega)) ?_
      refine mv rfl ?_
      refine mv rfl ?_ (hg := gd1)
      refine mv rfl ?_ (hg := gd1)
      refine sb ((m : Int)) rfl rfl rfl (by omega) ?_ (hg := gd1)
      refine ix rfl rfl slLs ⟨rfl, by omega⟩ ?_ (hg := gd1)
      refine lf rfl tyU32 ?_ (hg := gd1)
      refine ceq rfl rfl rfl ?_ (hg := gd1)
      refine pk rfl rfl ?_
      refine ⟨by kernel_rfl, ?_⟩
      refine nx (sl 0 rfl (sl 3 rfl (sl 17 rfl sn))) en ?_
      refine tri_if rfl (fun hc => ?_) (fun hc => ?_)
      · rw [getD_at] at hc
        refine tri_skip ?_
        refine nx (sl 0 rfl (sl 3 rfl sn)) en ?_
        refine tri_block ?_
        refine tri_reg mixed hcx ?_ _ _
        refine mv rfl ?_
        refine sb _ rfl rfl rfl ⟨rfl, by omega, by omega⟩ ?_
        refine asg rfl ?_
        refine ⟨by kernel_rfl, ?_⟩
        refine pn_blk ?_
        exact pn_back m (by first | omega | (dsimp only; omega)) ⟨by omega, by rw [← ht]; simp [tl, hc]⟩ (sl 0 rfl (sw 3 rfl (ci (by omega)) sn)) en
      · rw [getD_at] at hc
        refine tri_exit ?_
        repeat (first | refine pn_then ?_ | refine pn_oth (by decide) ?_)
        refine pn_ex ?_
        exact pn_join () trivial (sl 0 rfl (sw 3 rfl (ci (by rw [← ht]; first | rfl | simp [tl, hc])) sn)) en
  · rintro _ _
    refine tri_sub (sl 0 rfl (sl 3 rfl sn)) en ?_
    have htl := Mt.tl_le xs xs.length
    refine tri_seq ?_
    refine tri_reg mixed hcx ?_ _ _
    refine asg rfl ?_
    refine ⟨by kernel_rfl, ?_⟩
    refine nx (sl 0 rfl (sl 3 rfl (sl 4 rfl sn))) en ?_
    refine tri_seq ?_
    refine tri_seq ?_
    refine tri_nil 4 9 77 cU rfl (by rw [hcx]; kernel_rfl) ?_
    refine tri_reg mixed hcx ?_ _ _
    refine asg rfl ?_
    refine ⟨by kernel_rfl, ?_⟩
    refine nx (sl 0 rfl (sl 3 rfl (sl 4 rfl (sl 5 rfl sn)))) (el 9 rfl en) ?_
    refine tri_block ?_
    refine tri_loop (ι := Nat) (fun j => [(0, T.l cU xs), (3, T.c (.int .i64 ((tl xs xs.length : Nat) : Int))), (4, T.o 9), (5, T.c (.int .i64 (j : Int)))]) (fun j => [(9, some (Ent.row cU 77 (xs.take j)))]) (fun j => tl xs xs.length - j) (fun j => (j ≤ tl xs xs.length)) 0 (Nat.zero_le _) (sl 0 rfl (sl 3 rfl (sl 4 rfl (sl 5 rfl sn)))) (ew 9 rfl (.of (by rw [List.take_zero])) en) ?_
    rintro j hj
    refine tri_sub (sl 0 rfl (sl 3 rfl (sl 4 rfl (sl 5 rfl sn)))) (el 9 rfl en) ?_
    refine tri_seq ?_
    refine tri_seq ?_
    refine tri_reg mixed hcx ?_ _ _
    refine mv rfl ?_
    refine mv rfl ?_
    refine clt rfl rfl rfl ?_
    refine ⟨by kernel_rfl, ?_⟩
    refine nx (sl 0 rfl (sl 3 rfl (sl 4 rfl (sl 5 rfl (sl 22 rfl sn))))) (el 9 rfl en) ?_
    refine tri_if rfl (fun hc => ?_) (fun hc => ?_)
    · refine tri_skip ?_
      refine nx (sl 0 rfl (sl 3 rfl (sl 4 rfl (sl 5 rfl sn)))) (el 9 rfl en) ?_
      refine tri_seq ?_
      refine tri_block ?_
      refine tri_reg mixed hcx ?_ _ _
      refine mv rfl ?_
      refine mv rfl ?_
      refine mv rfl ?_
      refine ix rfl rfl slLs ⟨rfl, by omega⟩ ?_
      refine lf rfl tyU32 ?_
      refine bl1 rfl slLs zvU32 ?_
      refine ap 816 rfl rfl rfl slLs (by simp only [List.length_take, List.length_cons, List.length_nil]; omega) (by decide) ?_
      refine asg rfl ?_
      refine ⟨by kernel_rfl, ?_⟩
      refine pn_blk ?_
      refine nx (sl 0 rfl (sl 3 rfl (sl 4 rfl (sl 5 rfl sn)))) (el 816 rfl en) ?_
      refine tri_reg mixed hcx ?_ _ _
      refine mv rfl ?_
      refine ad (((j + 1 : Nat) : Int)) rfl rfl rfl (by omega) ?_
      refine asg rfl ?_
      refine ⟨by kernel_rfl, ?_⟩
      refine pn_sub (sl 0 rfl (sl 3 rfl (sl 4 rfl (sl 5 rfl sn)))) (el 816 rfl en) ?_
      refine pn_ren 4 9 816 rfl rfl (by rw [hcx]; kernel_rfl) ?_
      exact pn_back (j + 1) (by first | omega | (dsimp only; omega)) (by omega) (sl 0 rfl (sl 3 rfl (sl 4 rfl (sl 5 rfl sn)))) (ew 9 rfl (.of (by rw [take_snoc' (by omega)])) en)
    · refine tri_exit ?_
      repeat (first | refine pn_then ?_ | refine pn_oth (by decide) ?_)
      refine pn_ex ?_
      obtain rfl : j = tl xs xs.length := by omega
      refine nx (sl 4 rfl sn) (el 9 rfl en) ?_
      refine tri_seq ?_
      refine tri_reg mixed hcx ?_ _ _
      refine mv rfl ?_
      refine asg rfl ?_
      refine ⟨by kernel_rfl, ?_⟩
      refine nx (sl 2 rfl sn) (el 9 rfl en) ?_
      refine tri_fz 9 rfl ?_
      refine tri_rd 2 9 rfl rfl ?_
      refine tri_ret ?_
      repeat (first | refine pn_thenr ?_ | refine pn_blkr ?_)
      exact ret1 hcx rfl (rv_tmp rfl) (.of (by rw [trim_dig hl hv])) en

theorem r01_Cmp {M N k l : Nat} (hk : k ≤ 17592186044416) (hl : l ≤ 17592186044416) : Fn Try.prog 69 [T.L M k, T.L N l] [] [] [] (T.c (.int .i64 (sgnc M N))) := by
  refine fn_of Try.func69 rfl (by show 2 ≤ 30; decide) fun cx hcx => ?_
  refine tri_sub (sl 0 rfl (sl 1 rfl sn)) en ?_
  refine tri_ex 0 rfl fun xs ⟨hl0, hv0, hb0⟩ => ?_
  refine tri_ex 1 rfl fun ys ⟨hl1, hv1, hb1⟩ => ?_
  have hM := lim_val hl0 hv0 hb0; have hN := lim_val hl1 hv1 hb1; unfold lim at hM hN
  refine tri_seq ?_
  refine tri_reg mixed hcx ?_ _ _
  refine asg rfl ?_
  refine ⟨by kernel_rfl, ?_⟩
  refine nx (sl 0 rfl (sl 1 rfl sn)) en ?_
  refine tri_seq ?_
  refine tri_seq ?_
  refine tri_reg mixed hcx ?_ _ _
  refine mv rfl ?_
  refine ln slLs rfl ?_
  refine mv rfl ?_
  refine ln slLs rfl ?_
  refine ca rfl (h := r01_most) (hn := ?_)
  refine sb ((((max xs.length ys.length : Nat) : Int) - 1)) rfl rfl rfl (by omega) ?_
  refine asg rfl ?_
  refine ⟨by kernel_rfl, ?_⟩
  refine nx (sl 0 rfl (sl 1 rfl (sl 5 rfl sn))) en ?_
  refine tri_block ?_
  refine tri_loop (ι := Nat) (fun j => [(0, T.l cU xs), (1, T.l cU ys), (5, T.c (.int .i64 ((j : Int) - 1)))]) (fun j => []) (fun j => j) (fun j => (j ≤ max xs.length ys.length) ∧ (val (xs.drop j) = val (ys.drop j))) (max xs.length ys.length) ⟨Nat.le_refl _, by rw [List.drop_eq_nil_of_le (by omega), List.drop_eq_nil_of_le (by omega)]⟩ (sl 0 rfl (sl 1 rfl (sl 5 rfl sn))) en ?_
  rintro j ⟨hj, hd⟩
  refine tri_sub (sl 0 rfl (sl 1 rfl (sl 5 rfl sn))) en ?_
  refine tri_seq ?_
  refine tri_seq ?_
  rcases Nat.eq_zero_or_pos j with h0 | h0
  · subst h0
    refine tri_reg mixed hcx ?_ _ _
    refine mv rfl ?_
    refine cge rfl rfl (decide_eq_false (by omega)) ?_
    refine ⟨by kernel_rfl, ?_⟩
    refine nx (sl 0 rfl (sl 1 rfl (sl 5 rfl (sl 15 rfl sn)))) en ?_
    refine tri_false rfl rfl ?_
    refine tri_exit ?_
    repeat (first | refine pn_then ?_ | refine pn_oth (by decide) ?_)
    refine pn_ex ?_
    refine nx sn en ?_
    refine tri_seq ?_
    refine tri_reg mixed hcx ?_ _ _
    refine asg rfl ?_
    refine ⟨by kernel_rfl, ?_⟩
    refine nx (sl 4 rfl sn) en ?_
    refine tri_ret ?_
    repeat (first | refine pn_thenr ?_ | refine pn_blkr ?_)
    exact ret1 hcx rfl (rv_tmp rfl) (ci (sgnc_eq (by rw [← hv0, ← hv1]; simpa using hd)).symm) en
  · obtain ⟨m, rfl⟩ : ∃ m, j = m + 1 := ⟨j - 1, by omega⟩
    refine tri_as 5 (Z := T.c (.int .i64 (m : Int))) rfl (ci (by omega)) ?_
    refine tri_reg mixed hcx ?_ _ _
    refine mv rfl ?_
    refine cge rfl rfl (decide_eq_true (by omega)) ?_
    refine ⟨by kernel_rfl, ?_⟩
    refine nx (sl 0 rfl (sl 1 rfl (sl 5 rfl (sl 15 rfl sn)))) en ?_
    refine tri_true rfl rfl ?_
    refine tri_skip ?_
    refine nx (sl 0 rfl (sl 1 rfl (sl 5 rfl sn))) en ?_
    refine tri_seq ?_
    refine tri_block ?_
    refine tri_seq ?_
    refine tri_reg mixed hcx ?_ _ _
    refine mv rfl ?_
    refine mv rfl ?_
    refine ca rfl (h := r01_limb (by first | exact dig_lim _ | assumption)) (hn := ?_)
    refine asg rfl ?_
    refine ⟨by kernel_rfl, ?_⟩
    refine nx (sl 0 rfl (sl 1 rfl (sl 5 rfl (sl 6 rfl sn)))) en ?_
    refine tri_seq ?_
    refine tri_reg mixed hcx ?_ _ _
    refine mv rfl ?_
    refine mv rfl ?_
    refine ca rfl (h := r01_limb (by first | exact dig_lim _ | assumption)) (hn := ?_)
    refine asg rfl ?_
    refine ⟨by kernel_rfl, ?_⟩
    refine nx (sl 0 rfl (sl 1 rfl (sl 5 rfl (sl 6 rfl (sl 7 rfl sn))))) en ?_
    refine tri_seq ?_
    refine tri_seq ?_
    refine tri_reg mixed hcx ?_ _ _
    refine mv rfl ?_
    refine mv rfl ?_
    refine clt rfl rfl rfl ?_
    refine ⟨by kernel_rfl, ?_⟩
    refine nx (sl 0 rfl (sl 1 rfl (sl 5 rfl (sl 6 rfl (sl 7 rfl (sl 26 rfl sn)))))) en ?_
    refine tri_if rfl (fun hx => ?_) (fun hx => ?_)
    · refine tri_seq ?_
      refine tri_reg mixed hcx ?_ _ _
      refine asg rfl ?_
      refine ⟨by kernel_rfl, ?_⟩
      refine nx (sl 4 rfl sn) en ?_
      refine tri_ret ?_
      repeat (first | refine pn_thenr ?_ | refine pn_blkr ?_)
      exact ret1 hcx rfl (rv_tmp rfl) (ci (sgnc_lt (by rw [← hv0, ← hv1]; exact Mt.cmp_lt hl0 hl1 hd hx)).symm) en
    · refine tri_skip ?_
      refine nx (sl 0 rfl (sl 1 rfl (sl 5 rfl (sl 6 rfl (sl 7 rfl sn))))) en ?_
      refine tri_seq ?_
      refine tri_reg mixed hcx ?_ _ _
      refine mv rfl ?_
      refine mv rfl ?_
      refine cgt rfl rfl rfl ?_
      refine ⟨by kernel_rfl, ?_⟩
      refine nx (sl 0 rfl (sl 1 rfl (sl 5 rfl (sl 29 rfl sn)))) en ?_
      refine tri_if rfl (fun hy => ?_) (fun hy => ?_)
      · refine tri_seq ?_
        refine tri_reg mixed hcx ?_ _ _
        refine asg rfl ?_
        refine ⟨by kernel_rfl, ?_⟩
        refine nx (sl 4 rfl sn) en ?_
        refine tri_ret ?_
        repeat (first | refine pn_thenr ?_ | refine pn_blkr ?_)
        exact ret1 hcx rfl (rv_tmp rfl) (ci (sgnc_gt (by rw [← hv0, ← hv1]; exact Mt.cmp_lt hl1 hl0 hd.symm hy)).symm) en
      · refine tri_skip ?_
        refine pn_blk ?_
        refine nx (sl 0 rfl (sl 1 rfl (sl 5 rfl sn))) en ?_
        refine tri_reg mixed hcx ?_ _ _
        refine mv rfl ?_
        refine sb _ rfl rfl rfl ⟨rfl, by omega, by omega⟩ ?_
        refine asg rfl ?_
        refine ⟨by kernel_rfl, ?_⟩
        exact pn_back m (by first | omega | (dsimp only; omega)) ⟨by omega, Mt.cmp_eq hd (by rw [← getD_at, ← getD_at]; omega) (by rw [← getD_at, ← getD_at]; omega)⟩ (sl 0 rfl (sl 1 rfl (sl 5 rfl sn))) en

theorem r01_Add {M N k l : Nat} (hk : k ≤ 8796093022208) (hl : l ≤ 8796093022208) : Fn Try.prog 68 [T.L M k, T.L N l] [] [] [] (T.l cU (dig (M + N))) := by
  refine fn_of Try.func68 rfl (by show 2 ≤ 41; decide) fun cx hcx => ?_
  refine tri_sub (sl 0 rfl (sl 1 rfl sn)) en ?_
  refine tri_ex 0 rfl fun xs ⟨hl0, hv0, hb0⟩ => ?_
  refine tri_ex 1 rfl fun ys ⟨hl1, hv1, hb1⟩ => ?_
  have hM := lim_val hl0 hv0 hb0; have hN := lim_val hl1 hv1 hb1; unfold lim at hM hN
  refine tri_seq ?_
  refine tri_reg mixed hcx ?_ _ _
  refine asg rfl ?_
  refine ⟨by kernel_rfl, ?_⟩
  refine nx (sl 0 rfl (sl 1 rfl sn)) en ?_
  refine tri_seq ?_
  refine tri_reg mixed hcx ?_ _ _
  refine asg rfl ?_
  refine ⟨by kernel_rfl, ?_⟩
  refine nx (sl 0 rfl (sl 1 rfl (sl 5 rfl sn))) en ?_
  refine tri_seq ?_
  refine tri_nil 5 9 77 cU rfl (by rw [hcx]; kernel_rfl) ?_
  refine tri_reg mixed hcx ?_ _ _
  refine asg rfl ?_
  refine ⟨by kernel_rfl, ?_⟩
  refine nx (sl 0 rfl (sl 1 rfl (sl 5 rfl (sl 6 rfl sn)))) (el 9 rfl en) ?_
  refine tri_seq ?_
  refine tri_seq ?_
  refine tri_reg mixed hcx ?_ _ _
  refine asg rfl ?_
  refine ⟨by kernel_rfl, ?_⟩
  refine nx (sl 0 rfl (sl 1 rfl (sl 5 rfl (sl 6 rfl (sl 7 rfl sn))))) (el 9 rfl en) ?_
  refine tri_block ?_
  refine tri_loop (ι := Nat × Int × List Int) (fun (j, c, zs) => [(0, T.l cU xs), (1, T.l cU ys), (5, T.o 9), (6, T.c (.int .u64 c)), (7, T.c (.int .i64 (j : Int)))]) (fun (j, c, zs) => [(9, some (Ent.row cU 77 (zs)))]) (fun (j, c, zs) => max xs.length ys.length - j) (fun (j, c, zs) => (j ≤ max xs.length ys.length) ∧ (Mt.sumI xs ys zs j c)) (0, 0, []) ⟨Nat.zero_le _, Mt.sumI_start _ _⟩ (sl 0 rfl (sl 1 rfl (sl 5 rfl (sl 6 rfl (sl 7 rfl sn))))) (el 9 rfl en) ?_
  rintro ⟨j, c, zs⟩ ⟨hj, hR⟩
  refine tri_sub (sl 0 rfl (sl 1 rfl (sl 5 rfl (sl 6 rfl (sl 7 rfl sn))))) (el 9 rfl en) ?_
  refine tri_seq ?_
  refine tri_seq ?_
  refine tri_reg mixed hcx ?_ _ _
  refine mv rfl ?_
  refine mv rfl ?_
  refine ln slLs rfl ?_
  refine mv rfl ?_
  refine ln slLs rfl ?_
  refine ca rfl (h := r01_most) (hn := ?_)
  refine clt rfl rfl rfl ?_
  refine ⟨by kernel_rfl, ?_⟩
  refine nx (sl 0 rfl (sl 1 rfl (sl 5 rfl (sl 6 rfl (sl 7 rfl (sl 14 rfl sn)))))) (el 9 rfl en) ?_
  refine tri_if rfl (fun hc => ?_) (fun hc => ?_)
  · have bx := gd hl0 j; have bY := gd hl1 j; have bc := hR.1; have bd := hR.2.1; have hzl := hR.2.2.1
    refine tri_skip ?_
    refine nx (sl 0 rfl (sl 1 rfl (sl 5 rfl (sl 6 rfl (sl 7 rfl sn))))) (el 9 rfl en) ?_
    refine tri_seq ?_
    refine tri_block ?_
    refine tri_seq ?_
    refine tri_reg mixed hcx ?_ _ _
    refine mv rfl ?_
    refine mv rfl ?_
    refine mv rfl ?_
    refine ca rfl (h := r01_limb (by first | exact dig_lim _ | assumption)) (hn := ?_)
    refine ad _ rfl rfl rfl ⟨rfl, by omega, by omega⟩ ?_
    refine mv rfl ?_
    refine mv rfl ?_
    refine ca rfl (h := r01_limb (by first | exact dig_lim _ | assumption)) (hn := ?_)
    refine ad _ rfl rfl rfl ⟨rfl, by omega, by omega⟩ ?_
    refine asg rfl ?_
    refine ⟨by kernel_rfl, ?_⟩
    refine nx (sl 0 rfl (sl 1 rfl (sl 5 rfl (sl 6 rfl (sl 7 rfl sn))))) (el 9 rfl en) ?_
    refine tri_seq ?_
    refine tri_reg mixed hcx ?_ _ _
    refine mv rfl ?_
    refine mv rfl ?_
    refine re _ rfl rfl ⟨rfl, by omega, by omega⟩ ?_
    refine cvm ((c + xs.getD j cU.dflt + ys.getD j cU.dflt) % 4294967296) rfl cvU64U32 (by omega) ?_
    refine bl1 rfl slLs zvU32 ?_
    refine ap 715 rfl rfl rfl slLs (by simp only [List.length_cons, List.length_nil]; omega) (by decide) ?_
    refine asg rfl ?_
    refine ⟨by kernel_rfl, ?_⟩
    refine nx (sl 0 rfl (sl 1 rfl (sl 5 rfl (sl 6 rfl (sl 7 rfl sn))))) (el 715 rfl en) ?_
    refine tri_reg mixed hcx ?_ _ _
    refine mv rfl ?_
    refine qo _ rfl rfl rfl ⟨rfl, by omega, by omega, by omega⟩ ?_
    refine asg rfl ?_
    refine ⟨by kernel_rfl, ?_⟩
    refine pn_blk ?_
    refine nx (sl 0 rfl (sl 1 rfl (sl 5 rfl (sl 6 rfl (sl 7 rfl sn))))) (el 715 rfl en) ?_
    refine tri_reg mixed hcx ?_ _ _
    refine mv rfl ?_
    refine ad (((j + 1 : Nat) : Int)) rfl rfl rfl (by omega) ?_
    refine asg rfl ?_
    refine ⟨by kernel_rfl, ?_⟩
    refine pn_sub (sl 0 rfl (sl 1 rfl (sl 5 rfl (sl 6 rfl (sl 7 rfl sn))))) (el 715 rfl en) ?_
    refine pn_ren 5 9 715 rfl rfl (by rw [hcx]; kernel_rfl) ?_
    exact pn_back (j + 1, (c + xs.getD j cU.dflt + ys.getD j cU.dflt) / 4294967296, zs ++ [(c + xs.getD j cU.dflt + ys.getD j cU.dflt) % 4294967296]) (by first | omega | (dsimp only; omega)) ⟨by omega, Mt.sumI_step hR hl0 hl1⟩ (sl 0 rfl (sl 1 rfl (sl 5 rfl (sl 6 rfl (sl 7 rfl sn))))) (el 9 rfl en)
  · refine tri_exit ?_
    repeat (first | refine pn_then ?_ | refine pn_oth (by decide) ?_)
    refine pn_ex ?_
    have bx := gd hl0 j; have bY := gd hl1 j; have bc := hR.1; have bd := hR.2.1; have hzl := hR.2.2.1
    have hE := Mt.sumI_end hR (by omega) (by omega); have hE1 : val (zs ++ [c]) = ((M + N : Nat) : Int) := by rw [hE.1]; omega
    have hE2 := hE.2; have hE3 : (zs ++ [c]).length ≤ j + 1 := by rw [List.length_append, hzl]; exact Nat.le_refl _
    refine nx (sl 5 rfl (sl 6 rfl sn)) (el 9 rfl en) ?_
    refine tri_seq ?_
    refine tri_reg mixed hcx ?_ _ _
    refine mv rfl ?_
    refine mv rfl ?_
    refine cvm (c) rfl cvU64U32 (by omega) ?_
    refine bl1 rfl slLs zvU32 ?_
    refine ap 914 rfl rfl rfl slLs (by simp only [List.length_cons, List.length_nil]; omega) (by decide) ?_
    refine asg rfl ?_
    refine ⟨by kernel_rfl, ?_⟩
    refine nx (sl 5 rfl sn) (el 914 rfl en) ?_
    refine tri_seq ?_
    refine tri_fz 914 rfl ?_
    refine tri_rd 5 914 rfl rfl ?_
    refine tri_reg mixed hcx ?_ _ _
    refine mv rfl ?_
    refine ca rfl (h := r01_Norm (by omega)) (hn := ?_)
    refine asg rfl ?_
    refine ⟨by kernel_rfl, ?_⟩
    refine nx (sl 4 rfl sn) (el 914 rfl en) ?_
    refine tri_ret ?_
    repeat (first | refine pn_thenr ?_ | refine pn_blkr ?_)
    exact ret1 hcx rfl (rv_tmp rfl) (.refl _) en

theorem r01_less {M N k l : Nat} (hk : k ≤ 8796093022208) (hl : l ≤ 8796093022208) (hle : N ≤ M) : Fn Try.prog 86 [T.L M k, T.L N l] [] [] [] (T.l cU (dig (M - N))) := by
  refine fn_of Try.func86 rfl (by show 2 ≤ 38; decide) fun cx hcx => ?_
  refine tri_sub (sl 0 rfl (sl 1 rfl sn)) en ?_
  refine tri_ex 0 rfl fun xs ⟨hl0, hv0, hb0⟩ => ?_
  refine tri_ex 1 rfl fun ys ⟨hl1, hv1, hb1⟩ => ?_
  have hM := lim_val hl0 hv0 hb0; have hN := lim_val hl1 hv1 hb1; unfold lim at hM hN
  refine tri_seq ?_
  refine tri_reg mixed hcx ?_ _ _
  refine asg rfl ?_
  refine ⟨by kernel_rfl, ?_⟩
  refine nx (sl 0 rfl (sl 1 rfl sn)) en ?_
  refine tri_seq ?_
  refine tri_reg mixed hcx ?_ _ _
  refine asg rfl ?_
  refine ⟨by kernel_rfl, ?_⟩
  refine nx (sl 0 rfl (sl 1 rfl (sl 5 rfl sn))) en ?_
  refine tri_seq ?_
  refine tri_nil 5 9 77 cU rfl (by rw [hcx]; kernel_rfl) ?_
  refine tri_reg mixed hcx ?_ _ _
  refine asg rfl ?_
  refine ⟨by kernel_rfl, ?_⟩
  refine nx (sl 0 rfl (sl 1 rfl (sl 5 rfl (sl 6 rfl sn)))) (el 9 rfl en) ?_
  refine tri_seq ?_
  refine tri_seq ?_
  refine tri_reg mixed hcx ?_ _ _
  refine asg rfl ?_
  refine ⟨by kernel_rfl, ?_⟩
  refine nx (sl 0 rfl (sl 1 rfl (sl 5 rfl (sl 6 rfl (sl 7 rfl sn))))) (el 9 rfl en) ?_
  refine tri_block ?_
  refine tri_loop (ι := Nat × Int × List Int) (fun (j, c, zs) => [(0, T.l cU xs), (1, T.l cU ys), (5, T.o 9), (6, T.c (.int .u64 c)), (7, T.c (.int .i64 (j : Int)))]) (fun (j, c, zs) => [(9, some (Ent.row cU 77 (zs)))]) (fun (j, c, zs) => xs.length - j) (fun (j, c, zs) => (j ≤ xs.length) ∧ (Mt.difI xs ys zs j c)) (0, 0, []) ⟨Nat.zero_le _, Mt.difI_start _ _⟩ (sl 0 rfl (sl 1 rfl (sl 5 rfl (sl 6 rfl (sl 7 rfl sn))))) (el 9 rfl en) ?_
  rintro ⟨j, c, zs⟩ ⟨hj, hR⟩
  refine tri_sub (sl 0 rfl (sl 1 rfl (sl 5 rfl (sl 6 rfl (sl 7 rfl sn))))) (el 9 rfl en) ?_
  refine tri_seq ?_
  refine tri_seq ?_
  refine tri_reg mixed hcx ?_ _ _
  refine mv rfl ?_
  refine mv rfl ?_
  refine ln slLs rfl ?_
  refine clt rfl rfl rfl ?_
  refine ⟨by kernel_rfl, ?_⟩
  refine nx (sl 0 rfl (sl 1 rfl (sl 5 rfl (sl 6 rfl (sl 7 rfl (sl 13 rfl sn)))))) (el 9 rfl en) ?_
  refine tri_if rfl (fun hc => ?_) (fun hc => ?_)
  · have bx := gd hl0 j; have bY := gd hl1 j; have bc := hR.1; have bd := hR.2.1; have hzl := hR.2.2.1
    refine tri_skip ?_
    refine nx (sl 0 rfl (sl 1 rfl (sl 5 rfl (sl 6 rfl (sl 7 rfl sn))))) (el 9 rfl en) ?_
    refine tri_seq ?_
    refine tri_block ?_
    refine tri_seq ?_
    refine tri_reg mixed hcx ?_ _ _
    refine mv rfl ?_
    refine mv rfl ?_
    refine ca rfl (h := r01_limb (by first | exact dig_lim _ | assumption)) (hn := ?_)
    refine asg rfl ?_
    refine ⟨by kernel_rfl, ?_⟩
    refine nx (sl 0 rfl (sl 1 rfl (sl 5 rfl (sl 6 rfl (sl 7 rfl (sl 8 rfl sn)))))) (el 9 rfl en) ?_
    refine tri_seq ?_
    refine tri_reg mixed hcx ?_ _ _
    refine mv rfl ?_
    refine mv rfl ?_
    refine ca rfl (h := r01_limb (by first | exact dig_lim _ | assumption)) (hn := ?_)
    refine mv rfl ?_
    refine ad _ rfl rfl rfl ⟨rfl, by omega, by omega⟩ ?_
    refine asg rfl ?_
    refine ⟨by kernel_rfl, ?_⟩
    refine nx (sl 0 rfl (sl 1 rfl (sl 5 rfl (sl 7 rfl (sl 8 rfl (sl 9 rfl sn)))))) (el 9 rfl en) ?_
    refine tri_seq ?_
    refine tri_reg mixed hcx ?_ _ _
    refine asg rfl ?_
    refine ⟨by kernel_rfl, ?_⟩
    refine nx (sl 0 rfl (sl 1 rfl (sl 5 rfl (sl 6 rfl (sl 7 rfl (sl 8 rfl (sl 9 rfl sn))))))) (el 9 rfl en) ?_
    refine tri_seq ?_
    refine tri_seq ?_
    refine tri_reg mixed hcx ?_ _ _
    refine mv rfl ?_
    refine mv rfl ?_
    refine clt rfl rfl rfl ?_
    refine ⟨by kernel_rfl, ?_⟩
    refine nx (sl 0 rfl (sl 1 rfl (sl 5 rfl (sl 6 rfl (sl 7 rfl (sl 8 rfl (sl 9 rfl (sl 26 rfl sn)))))))) (el 9 rfl en) ?_
    refine tri_if rfl (fun hx => ?_) (fun hx => ?_)
    · refine tri_seq ?_
      refine tri_reg mixed hcx ?_ _ _
      refine mv rfl ?_
      refine ad _ rfl rfl rfl ⟨rfl, by omega, by omega⟩ ?_
      refine asg rfl ?_
      refine ⟨by kernel_rfl, ?_⟩
      refine nx (sl 0 rfl (sl 1 rfl (sl 5 rfl (sl 7 rfl (sl 8 rfl (sl 9 rfl sn)))))) (el 9 rfl en) ?_
      refine tri_reg mixed hcx ?_ _ _
      refine asg rfl ?_
      refine ⟨by kernel_rfl, ?_⟩
      refine nx (sl 0 rfl (sl 1 rfl (sl 5 rfl (sl 6 rfl (sl 7 rfl (sl 8 rfl (sl 9 rfl sn))))))) (el 9 rfl en) ?_
      refine tri_reg mixed hcx ?_ _ _
      refine mv rfl ?_
      refine mv rfl ?_
      refine mv rfl ?_
      refine sb _ rfl rfl rfl ⟨rfl, by omega, by omega⟩ ?_
      refine cvm (xs.getD j cU.dflt + 4294967296 - (ys.getD j cU.dflt + c)) rfl cvU64U32 (by omega) ?_
      refine bl1 rfl slLs zvU32 ?_
      refine ap 1216 rfl rfl rfl slLs (by simp only [List.length_cons, List.length_nil]; omega) (by decide) ?_
      refine asg rfl ?_
      refine ⟨by kernel_rfl, ?_⟩
      refine pn_blk ?_
      refine nx (sl 0 rfl (sl 1 rfl (sl 5 rfl (sl 6 rfl (sl 7 rfl sn))))) (el 1216 rfl en) ?_
      refine tri_reg mixed hcx ?_ _ _
      refine mv rfl ?_
      refine ad (((j + 1 : Nat) : Int)) rfl rfl rfl (by omega) ?_
      refine asg rfl ?_
      refine ⟨by kernel_rfl, ?_⟩
      refine pn_sub (sl 0 rfl (sl 1 rfl (sl 5 rfl (sl 6 rfl (sl 7 rfl sn))))) (el 1216 rfl en) ?_
      refine pn_ren 5 9 1216 rfl rfl (by rw [hcx]; kernel_rfl) ?_
      exact pn_back (j + 1, 1, zs ++ [xs.getD j cU.dflt + 4294967296 - (ys.getD j cU.dflt + c)]) (by first | omega | (dsimp only; omega)) ⟨by omega, Mt.difI_step hR hl0 hl1 (xs.getD j cU.dflt + 4294967296 - (ys.getD j cU.dflt + c)) 1 (by rw [← getD_at, ← getD_at]; omega) (by omega) (by omega) (by omega) (by omega)⟩ (sl 0 rfl (sl 1 rfl (sl 5 rfl (sl 6 rfl (sl 7 rfl sn))))) (el 9 rfl en)
    · refine tri_skip ?_
      refine nx (sl 0 rfl (sl 1 rfl (sl 5 rfl (sl 6 rfl (sl 7 rfl (sl 8 rfl (sl 9 rfl sn))))))) (el 9 rfl en) ?_
      refine tri_reg mixed hcx ?_ _ _
      refine mv rfl ?_
      refine mv rfl ?_
      refine mv rfl ?_
      refine sb _ rfl rfl rfl ⟨rfl, by omega, by omega⟩ ?_
      refine cvm (xs.getD j cU.dflt - (ys.getD j cU.dflt + c)) rfl cvU64U32 (by omega) ?_
      refine bl1 rfl slLs zvU32 ?_
      refine ap 1216 rfl rfl rfl slLs (by simp only [List.length_cons, List.length_nil]; omega) (by decide) ?_
      refine asg rfl ?_
      refine ⟨by kernel_rfl, ?_⟩
      refine pn_blk ?_
      refine nx (sl 0 rfl (sl 1 rfl (sl 5 rfl (sl 6 rfl (sl 7 rfl sn))))) (el 1216 rfl en) ?_
      refine tri_reg mixed hcx ?_ _ _
      refine mv rfl ?_
      refine ad (((j + 1 : Nat) : Int)) rfl rfl rfl (by omega) ?_
      refine asg rfl ?_
      refine ⟨by kernel_rfl, ?_⟩
      refine pn_sub (sl 0 rfl (sl 1 rfl (sl 5 rfl (sl 6 rfl (sl 7 rfl sn))))) (el 1216 rfl en) ?_
      refine pn_ren 5 9 1216 rfl rfl (by rw [hcx]; kernel_rfl) ?_
      exact pn_back (j + 1, 0, zs ++ [xs.getD j cU.dflt - (ys.getD j cU.dflt + c)]) (by first | omega | (dsimp only; omega)) ⟨by omega, Mt.difI_step hR hl0 hl1 (xs.getD j cU.dflt - (ys.getD j cU.dflt + c)) 0 (by rw [← getD_at, ← getD_at]; omega) (by omega) (by omega) (by omega) (by omega)⟩ (sl 0 rfl (sl 1 rfl (sl 5 rfl (sl 6 rfl (sl 7 rfl sn))))) (el 9 rfl en)
  · refine tri_exit ?_
    repeat (first | refine pn_then ?_ | refine pn_oth (by decide) ?_)
    refine pn_ex ?_
    have hE1 : val zs = ((M - N : Nat) : Int) := by rw [Mt.difI_end hR (by omega) hl0 hl1 (by omega)]; omega
    have hE2 := hR.2.2.2.1; have hE3 : zs.length ≤ j := Nat.le_of_eq hR.2.2.1
    refine nx (sl 5 rfl sn) (el 9 rfl en) ?_
    refine tri_seq ?_
    refine tri_fz 9 rfl ?_
    refine tri_rd 5 9 rfl rfl ?_
    refine tri_reg mixed hcx ?_ _ _
    refine mv rfl ?_
    refine ca rfl (h := r01_Norm (by omega)) (hn := ?_)
    refine asg rfl ?_
    refine ⟨by kernel_rfl, ?_⟩
    refine nx (sl 4 rfl sn) (el 9 rfl en) ?_
    refine tri_ret ?_
    repeat (first | refine pn_thenr ?_ | refine pn_blkr ?_)
    exact ret1 hcx rfl (rv_tmp rfl) (.refl _) en

theorem r01_Sub {M N k l : Nat} (hk : k ≤ 8796093022208) (hl : l ≤ 8796093022208) (hle : N ≤ M) : Fn Try.prog 70 [T.L M k, T.L N l] [] [] [] (T.tup [T.l cU (dig (M - N)), T.c (.int .i64 0)]) := by
  refine fn_of Try.func70 rfl (by show 2 ≤ 13; decide) fun cx hcx => ?_
  refine tri_sub (sl 0 rfl (sl 1 rfl sn)) en ?_
  have hs := sgnc_ge0 hle
  refine tri_seq ?_
  refine tri_reg mixed hcx ?_ _ _
  refine asg rfl ?_
  refine asg rfl ?_
  refine ⟨by kernel_rfl, ?_⟩
  refine nx (sl 0 rfl (sl 1 rfl sn)) en ?_
  refine tri_seq ?_
  refine tri_seq ?_
  refine tri_reg mixed hcx ?_ _ _
  refine mv rfl ?_
  refine mv rfl ?_
  refine ca rfl (h := r01_Cmp (by omega) (by omega)) (hn := ?_)
  refine clt rfl rfl (decide_eq_false (by omega)) ?_
  refine ⟨by kernel_rfl, ?_⟩
  refine nx (sl 0 rfl (sl 1 rfl (sl 9 rfl sn))) en ?_
  refine tri_false rfl rfl ?_
  refine tri_skip ?_
  refine nx (sl 0 rfl (sl 1 rfl sn)) en ?_
  refine tri_seq ?_
  refine tri_reg mixed hcx ?_ _ _
  refine mv rfl ?_
  refine mv rfl ?_
  refine ca rfl (h := r01_less (by omega) (by omega) (by omega)) (hn := ?_)
  refine asg rfl ?_
  refine asg rfl ?_
  refine ⟨by kernel_rfl, ?_⟩
  refine nx (sl 4 rfl (sl 5 rfl sn)) en ?_
  refine tri_ret ?_
  repeat (first | refine pn_thenr ?_ | refine pn_blkr ?_)
  exact ret2 hcx rfl (rv_tmp rfl) (rv_tmp rfl) (.refl _) en

theorem r01_Mul {M N k l : Nat} (hk : k ≤ 8796093022208) (hl : l ≤ 8796093022208) : Fn Try.prog 59 [T.L M k, T.L N l] [] [] [] (T.l cU (dig (M * N))) := by
  refine fn_of Try.func59 rfl (by show 2 ≤ 68; decide) fun cx hcx => ?_
  refine tri_sub (sl 0 rfl (sl 1 rfl sn)) en ?_
  refine tri_ex 0 rfl fun xs ⟨hl0, hv0, hb0⟩ => ?_
  refine tri_ex 1 rfl fun ys ⟨hl1, hv1, hb1⟩ => ?_
  have hM := lim_val hl0 hv0 hb0; have hN := lim_val hl1 hv1 hb1; unfold lim at hM hN
  refine tri_seq ?_
  refine tri_reg mixed hcx ?_ _ _
  refine asg rfl ?_
  refine ⟨by kernel_rfl, ?_⟩
  refine nx (sl 0 rfl (sl 1 rfl sn)) en ?_
  refine tri_seq ?_
  refine tri_reg mixed hcx ?_ _ _
  refine mv rfl ?_
  refine ln slLs rfl ?_
  refine mv rfl ?_
  refine ln slLs rfl ?_
  refine ad (((xs.length + ys.length : Nat) : Int)) rfl rfl rfl (by omega) ?_
  refine mkz (c := cU) (n := xs.length + ys.length) 115 slLs rfl (by omega) (fun u => ⟨zvU32, zrU u⟩) (by decide) ?_
  refine asg rfl ?_
  refine ⟨by kernel_rfl, ?_⟩
  refine nx (sl 0 rfl (sl 1 rfl (sl 5 rfl sn))) (el 115 rfl en) ?_
  refine tri_seq ?_
  refine tri_seq ?_
  refine tri_reg mixed hcx ?_ _ _
  refine asg rfl ?_
  refine ⟨by kernel_rfl, ?_⟩
  refine nx (sl 0 rfl (sl 1 rfl (sl 5 rfl (sl 6 rfl sn)))) (el 115 rfl en) ?_
  refine tri_block ?_
  refine tri_loop (ι := Nat × List Int) (fun (i, zs) => [(0, T.l cU xs), (1, T.l cU ys), (5, T.o 115), (6, T.c (.int .i64 (i : Int)))]) (fun (i, zs) => [(115, some (Ent.row cU 77 (zs)))]) (fun (i, zs) => xs.length - i) (fun (i, zs) => (i ≤ xs.length) ∧ (Mt.mulO xs ys zs i)) (0, List.replicate (xs.length + ys.length) 0) ⟨Nat.zero_le _, Mt.mulO_start _ _⟩ (sl 0 rfl (sl 1 rfl (sl 5 rfl (sl 6 rfl sn)))) (el 115 rfl en) ?_
  rintro ⟨i, zs⟩ ⟨hi, hO⟩
  refine tri_sub (sl 0 rfl (sl 1 rfl (sl 5 rfl (sl 6 rfl sn)))) (el 115 rfl en) ?_
  refine tri_seq ?_
  refine tri_seq ?_
  refine tri_reg mixed hcx ?_ _ _
  refine mv rfl ?_
  refine mv rfl ?_
  refine ln slLs rfl ?_
  refine clt rfl rfl rfl ?_
  refine ⟨by kernel_rfl, ?_⟩
  refine nx (sl 0 rfl (sl 1 rfl (sl 5 rfl (sl 6 rfl (sl 18 rfl sn))))) (el 115 rfl en) ?_
  refine tri_if rfl (fun hc => ?_) (fun hc => ?_)
  · refine tri_skip ?_
    refine nx (sl 0 rfl (sl 1 rfl (sl 5 rfl (sl 6 rfl sn)))) (el 115 rfl en) ?_
    refine tri_seq ?_
    refine tri_block ?_
    refine tri_seq ?_
    refine tri_reg mixed hcx ?_ _ _
    refine asg rfl ?_
    refine ⟨by kernel_rfl, ?_⟩
    refine nx (sl 0 rfl (sl 1 rfl (sl 5 rfl (sl 6 rfl (sl 7 rfl sn))))) (el 115 rfl en) ?_
    refine tri_seq ?_
    refine tri_seq ?_
    refine tri_reg mixed hcx ?_ _ _
    refine asg rfl ?_
    refine ⟨by kernel_rfl, ?_⟩
    refine nx (sl 0 rfl (sl 1 rfl (sl 5 rfl (sl 6 rfl (sl 7 rfl (sl 8 rfl sn)))))) (el 115 rfl en) ?_
    refine tri_block ?_
    refine tri_loop (ι := Nat × Int × List Int) (fun (j, c, zs) => [(0, T.l cU xs), (1, T.l cU ys), (5, T.o 115), (6, T.c (.int .i64 (i : Int))), (7, T.c (.int .u64 c)), (8, T.c (.int .i64 (j : Int)))]) (fun (j, c, zs) => [(115, some (Ent.row cU 77 (zs)))]) (fun (j, c, zs) => ys.length - j) (fun (j, c, zs) => (j ≤ ys.length) ∧ (Mt.mulI xs ys zs i j c)) (0, 0, zs) ⟨Nat.zero_le _, Mt.mulI_start hO⟩ (sl 0 rfl (sl 1 rfl (sl 5 rfl (sl 6 rfl (sl 7 rfl (sl 8 rfl sn)))))) (el 115 rfl en) ?_
    rintro ⟨j, c, zs⟩ ⟨hj, hI⟩
    refine tri_sub (sl 0 rfl (sl 1 rfl (sl 5 rfl (sl 6 rfl (sl 7 rfl (sl 8 rfl sn)))))) (el 115 rfl en) ?_
    refine tri_seq ?_
    refine tri_seq ?_
    refine tri_reg mixed hcx ?_ _ _
    refine mv rfl ?_
    refine mv rfl ?_
    refine ln slLs rfl ?_
    refine clt rfl rfl rfl ?_
    refine ⟨by kernel_rfl, ?_⟩
    refine nx (sl 0 rfl (sl 1 rfl (sl 5 rfl (sl 6 rfl (sl 7 rfl (sl 8 rfl (sl 24 rfl sn))))))) (el 115 rfl en) ?_
    refine tri_if rfl (fun hd => ?_) (fun hd => ?_)
    · have bx := gd hl0 i; have bY := gd hl1 j; have bz := gd hI.2.2.2.1 (i + j); have bc := hI.1; have bd := hI.2.1; have hzl := hI.2.2.1; have hm := Mt.mul_bd bx.1 bx.2 bY.1 bY.2
      refine tri_skip ?_
      refine nx (sl 0 rfl (sl 1 rfl (sl 5 rfl (sl 6 rfl (sl 7 rfl (sl 8 rfl sn)))))) (el 115 rfl en) ?_
      refine tri_seq ?_
      refine tri_block ?_
      refine tri_seq ?_
      refine tri_reg mixed hcx ?_ _ _
      refine mv rfl ?_
      refine mv rfl ?_
      refine mv rfl ?_
      refine mv rfl ?_
      refine ad (((i + j : Nat) : Int)) rfl rfl rfl (by omega) ?_
      refine ixo rfl rfl rfl slLs ⟨rfl, by omega⟩ ?_
      refine lo _ rfl rfl tyU32 ⟨rfl, rfl, by omega⟩ ?_
      refine cvt _ rfl cvU32U64 rfl ⟨rfl, by omega, by omega⟩ ?_
      refine ad _ rfl rfl rfl ⟨rfl, by omega, by omega⟩ ?_
      refine mv rfl ?_
      refine mv rfl ?_
      refine ix rfl rfl slLs ⟨rfl, by omega⟩ ?_
      refine lf rfl tyU32 ?_
      refine cvt _ rfl cvU32U64 rfl ⟨rfl, by omega, by omega⟩ ?_
      refine mv rfl ?_
      refine mv rfl ?_
      refine ix rfl rfl slLs ⟨rfl, by omega⟩ ?_
      refine lf rfl tyU32 ?_
      refine cvt _ rfl cvU32U64 rfl ⟨rfl, by omega, by omega⟩ ?_
      refine ml _ rfl rfl rfl ⟨rfl, by omega, by omega⟩ ?_
      refine ad _ rfl rfl rfl ⟨rfl, by omega, by omega⟩ ?_
      refine asg rfl ?_
      refine ⟨by kernel_rfl, ?_⟩
      refine nx (sl 0 rfl (sl 1 rfl (sl 5 rfl (sl 6 rfl (sl 7 rfl (sl 8 rfl sn)))))) (el 115 rfl en) ?_
      refine tri_seq ?_
      refine tri_reg mixed hcx ?_ _ _
      refine mv rfl ?_
      refine mv rfl ?_
      refine mv rfl ?_
      refine ad (((i + j : Nat) : Int)) rfl rfl rfl (by omega) ?_
      refine mv rfl ?_
      refine re _ rfl rfl ⟨rfl, by omega, by omega⟩ ?_
      refine cvm ((c + zs.getD (i + j) cU.dflt + xs.getD i cU.dflt * ys.getD j cU.dflt) % 4294967296) rfl cvU64U32 (by omega) ?_
      refine ixo rfl rfl rfl slLs ⟨rfl, by omega⟩ ?_
      refine so rfl rfl rfl (.refl _) tyU32 ⟨rfl, by omega⟩ ?_
      refine ⟨by kernel_rfl, ?_⟩
      refine nx (sl 0 rfl (sl 1 rfl (sl 5 rfl (sl 6 rfl (sl 7 rfl (sl 8 rfl sn)))))) (el 115 rfl en) ?_
      refine tri_reg mixed hcx ?_ _ _
      refine mv rfl ?_
      refine qo _ rfl rfl rfl ⟨rfl, by omega, by omega, by omega⟩ ?_
      refine asg rfl ?_
      refine ⟨by kernel_rfl, ?_⟩
      refine pn_blk ?_
      refine nx (sl 0 rfl (sl 1 rfl (sl 5 rfl (sl 6 rfl (sl 7 rfl (sl 8 rfl sn)))))) (el 115 rfl en) ?_
      refine tri_reg mixed hcx ?_ _ _
      refine mv rfl ?_
      refine ad (((j + 1 : Nat) : Int)) rfl rfl rfl (by omega) ?_
      refine asg rfl ?_
      refine ⟨by kernel_rfl, ?_⟩
      exact pn_back (j + 1, (c + zs.getD (i + j) cU.dflt + xs.getD i cU.dflt * ys.getD j cU.dflt) / 4294967296, zs.set (i + j) ((c + zs.getD (i + j) cU.dflt + xs.getD i cU.dflt * ys.getD j cU.dflt) % 4294967296)) (by first | omega | (dsimp only; omega)) ⟨by omega, Mt.mulI_step hI (by omega) (by omega) hl0 hl1 rfl⟩ (sl 0 rfl (sl 1 rfl (sl 5 rfl (sl 6 rfl (sl 7 rfl (sl 8 rfl sn)))))) (el 115 rfl en)
    · refine tri_exit ?_
      repeat (first | refine pn_then ?_ | refine pn_oth (by decide) ?_)
      refine pn_ex ?_
      obtain rfl : j = ys.length := by omega
      have hzl := hI.2.2.1; have bc := hI.1; have bd := hI.2.1
      refine nx (sl 0 rfl (sl 1 rfl (sl 5 rfl (sl 6 rfl (sl 7 rfl sn))))) (el 115 rfl en) ?_
      refine tri_reg mixed hcx ?_ _ _
      refine mv rfl ?_
      refine mv rfl ?_
      refine mv rfl ?_
      refine ln slLs rfl ?_
      refine ad (((i + ys.length : Nat) : Int)) rfl rfl rfl (by omega) ?_
      refine mv rfl ?_
      refine cvm (c) rfl cvU64U32 (by omega) ?_
      refine ixo rfl rfl rfl slLs ⟨rfl, by omega⟩ ?_
      refine so rfl rfl rfl (.refl _) tyU32 ⟨rfl, by omega⟩ ?_
      refine ⟨by kernel_rfl, ?_⟩
      refine pn_blk ?_
      refine nx (sl 0 rfl (sl 1 rfl (sl 5 rfl (sl 6 rfl sn)))) (el 115 rfl en) ?_
      refine tri_reg mixed hcx ?_ _ _
      refine mv rfl ?_
      refine ad (((i + 1 : Nat) : Int)) rfl rfl rfl (by omega) ?_
      refine asg rfl ?_
      refine ⟨by kernel_rfl, ?_⟩
      exact pn_back (i + 1, zs.set (i + ys.length) c) (by first | omega | (dsimp only; omega)) ⟨by omega, Mt.mulI_end hI (by omega)⟩ (sl 0 rfl (sl 1 rfl (sl 5 rfl (sl 6 rfl sn)))) (el 115 rfl en)
  · refine tri_exit ?_
    repeat (first | refine pn_then ?_ | refine pn_oth (by decide) ?_)
    refine pn_ex ?_
    have hE1 : val zs = ((M * N : Nat) : Int) := by rw [Mt.mulO_end hO (by omega), hv0, hv1, Int.natCast_mul]
    have hE2 := hO.2.1; have hE3 : zs.length ≤ xs.length + ys.length := Nat.le_of_eq hO.1
    refine nx (sl 5 rfl sn) (el 115 rfl en) ?_
    refine tri_seq ?_
    refine tri_fz 115 rfl ?_
    refine tri_rd 5 115 rfl rfl ?_
    refine tri_reg mixed hcx ?_ _ _
    refine mv rfl ?_
    refine ca rfl (h := r01_Norm (by omega)) (hn := ?_)
    refine asg rfl ?_
    refine ⟨by kernel_rfl, ?_⟩
    refine nx (sl 4 rfl sn) (el 115 rfl en) ?_
    refine tri_ret ?_
    repeat (first | refine pn_thenr ?_ | refine pn_blkr ?_)
    exact ret1 hcx rfl (rv_tmp rfl) (.refl _) en
end Go.Proofs.Ytlmiadjogdfjkaa.V
