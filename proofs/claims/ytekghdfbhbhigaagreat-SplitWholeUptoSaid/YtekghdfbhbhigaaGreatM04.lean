/- Contracts of the document: limbs. -/
import Derived.Test.YtekghdfbhbhigaaGreatRows
import Derived.ChangeSame
import Derived.ChangeSlices
import Derived.Deep.Slices
import Derived.ProofKit
import Derived.Test.YtekghdfbhbhigaaGreatM03
set_option linter.unusedVariables false
set_option linter.unusedSimpArgs false
set_option maxRecDepth 100000
namespace Go.Proofs.YtekghdfbhbhigaaGreat.V
open Go.RowKit Mt Nml
theorem take_snoc' {xs : List Int} {k : Nat} (h : k < xs.length) : xs.take k ++ [xs.getD k cU.dflt] = xs.take (k + 1) := by
  rw [List.take_add_one, List.getD_eq_getElem?_getD, List.getElem?_eq_getElem h]; rfl

theorem r01_most {a b : Nat} : Fn Tryz.prog 157 [T.c (.int .i64 (a : Int)), T.c (.int .i64 (b : Int))] [] [] [] (T.c (.int .i64 ((max a b : Nat) : Int))) := by
  refine fn_of Tryz.func157 rfl (by show 2 ≤ 10; decide) fun cx hcx => ?_
  refine tri_sub (sl 0 rfl (sl 1 rfl sn)) en ?_
  refine tri_seq ?_
  refine tri_reg mixed hcx ?_ _ _
  refine asg rfl ?_
  refine ⟨by kernel_rfl, ?_⟩
  refine nx (sl 0 rfl (sl 1 rfl sn)) en ?_
  refine tri_seq ?_
  refine tri_seq ?_
  refine tri_reg mixed hcx ?_ _ _
  refine mv rfl ?_
  refine mv rfl ?_
  refine cgt rfl rfl rfl ?_
  refine ⟨by kernel_rfl, ?_⟩
  refine nx (sl 0 rfl (sl 1 rfl (sl 7 rfl sn))) en ?_
  refine tri_if rfl (fun hc => ?_) (fun hc => ?_)
  · refine tri_seq ?_
    refine tri_reg mixed hcx ?_ _ _
    refine mv rfl ?_
    refine asg rfl ?_
    refine ⟨by kernel_rfl, ?_⟩
    refine nx (sl 4 rfl sn) en ?_
    refine tri_ret ?_
    repeat (first | refine pn_thenr ?_ | refine pn_blkr ?_)
    exact ret1 hcx rfl (rv_tmp rfl) (ci (by omega)) en
  · refine tri_skip ?_
    refine nx (sl 1 rfl sn) en ?_
    refine tri_seq ?_
    refine tri_reg mixed hcx ?_ _ _
    refine mv rfl ?_
    refine asg rfl ?_
    refine ⟨by kernel_rfl, ?_⟩
    refine nx (sl 4 rfl sn) en ?_
    refine tri_ret ?_
    repeat (first | refine pn_thenr ?_ | refine pn_blkr ?_)
    exact ret1 hcx rfl (rv_tmp rfl) (ci (by omega)) en

theorem r01_limb {xs : List Int} {k : Nat} (hl : Lim xs) : Fn Tryz.prog 158 [T.l cU xs, T.c (.int .i64 (k : Int))] [] [] [] (T.c (.int .u64 (xs.getD k cU.dflt))) := by
  refine fn_of Tryz.func158 rfl (by show 2 ≤ 14; decide) fun cx hcx => ?_
  refine tri_sub (sl 0 rfl (sl 1 rfl sn)) en ?_
  have bx := gd hl k
  refine tri_seq ?_
  refine tri_reg mixed hcx ?_ _ _
  refine asg rfl ?_
  refine ⟨by kernel_rfl, ?_⟩
  refine nx (sl 0 rfl (sl 1 rfl sn)) en ?_
  refine tri_seq ?_
  refine tri_seq ?_
  refine tri_reg mixed hcx ?_ _ _
  refine mv rfl ?_
  refine mv rfl ?_
  refine ln slLs rfl ?_
  refine clt rfl rfl rfl ?_
  refine ⟨by kernel_rfl, ?_⟩
  refine nx (sl 0 rfl (sl 1 rfl (sl 8 rfl sn))) en ?_
  refine tri_if rfl (fun hc => ?_) (fun hc => ?_)
  · refine tri_seq ?_
    refine tri_reg mixed hcx ?_ _ _
    refine mv rfl ?_
    refine mv rfl ?_
    refine ix rfl rfl slLs ⟨rfl, by omega⟩ ?_
    refine lf rfl tyU32 ?_
    refine cvt _ rfl cvU32U64 rfl ⟨rfl, by omega, by omega⟩ ?_
    refine asg rfl ?_
    refine ⟨by kernel_rfl, ?_⟩
    refine nx (sl 4 rfl sn) en ?_
    refine tri_ret ?_
    repeat (first | refine pn_thenr ?_ | refine pn_blkr ?_)
    exact ret1 hcx rfl (rv_tmp rfl) (.refl _) en
  · refine tri_skip ?_
    refine nx sn en ?_
    refine tri_seq ?_
    refine tri_reg mixed hcx ?_ _ _
    refine asg rfl ?_
    refine ⟨by kernel_rfl, ?_⟩
    refine nx (sl 4 rfl sn) en ?_
    refine tri_ret ?_
    repeat (first | refine pn_thenr ?_ | refine pn_blkr ?_)
    exact ret1 hcx rfl (rv_tmp rfl) (ci (show (0 : Int) = at_ xs k from (at_ge (by omega)).symm)) en

theorem r01_Norm {N k : Nat} (hk : k ≤ 17592186044416) : Fn Tryz.prog 124 [T.L N k] [] [] [] (T.l cU (dig N)) := by
  refine fn_of Tryz.func124 rfl (by show 1 ≤ 33; decide) fun cx hcx => ?_
  refine tri_sub (sl 0 rfl sn) en ?_
  refine tri_ex 0 rfl fun xs ⟨hl, hv, hb⟩ => ?_
  refine tri_seq ?_
  refine tri_reg mixed hcx ?_ _ _
  refine asg rfl ?_
  refine ⟨by kernel_rfl, ?_⟩
  refine nx (sl 0 rfl sn) en ?_
  refine tri_seq ?_
  refine tri_reg mixed hcx ?_ _ _
  refine mv rfl ?_
  refine ln slLs rfl ?_
  refine asg rfl ?_
  refine ⟨by kernel_rfl, ?_⟩
  refine nx (sl 0 rfl (sl 3 rfl sn)) en ?_
  refine tri_join (ι := Unit) (fun _ => [(0, T.l cU xs), (3, T.c (.int .i64 ((tl xs xs.length : Nat) : Int)))]) (fun _ => []) (fun _ => True) ?_ ?_
  · refine tri_block ?_
    refine tri_loop (ι := Nat) (fun j => [(0, T.l cU xs), (3, T.c (.int .i64 (j : Int)))]) (fun j => []) (fun j => j) (fun j => (j ≤ xs.length) ∧ (tl xs j = tl xs xs.length)) xs.length ⟨Nat.le_refl _, rfl⟩ (sl 0 rfl (sl 3 rfl sn)) en ?_
    rintro j ⟨hj, ht⟩
    refine tri_sub (sl 0 rfl (sl 3 rfl sn)) en ?_
    refine tri_seq ?_
    refine tri_seq ?_
    rcases Nat.eq_zero_or_pos j with h0 | h0
    · subst h0
      refine tri_reg mixed hcx ?_ _ _
      refine mv rfl ?_
      refine cgt rfl rfl (decide_eq_false (by omega)) ?_
      refine mv rfl ?_
      refine j_off rfl rfl rfl rfl ?_
      refine j_off rfl rfl rfl rfl ?_
      refine j_off rfl rfl rfl rfl ?_
      refine j_off rfl rfl rfl rfl ?_
      refine j_off rfl rfl rfl rfl ?_
      refine j_off rfl rfl rfl rfl ?_
      refine pk rfl rfl ?_
      refine ⟨by kernel_rfl, ?_⟩
      refine nx (sl 0 rfl (sl 3 rfl (sl 17 rfl sn))) en ?_
      refine tri_false rfl rfl ?_
      refine tri_exit ?_
      repeat (first | refine pn_then ?_ | refine pn_oth (by decide) ?_)
      refine pn_ex ?_
      exact pn_join () trivial (sl 0 rfl (sw 3 rfl (ci (by rw [← ht]; first | rfl | simp [tl, hc])) sn)) en
    · obtain ⟨m, rfl⟩ : ∃ m, j = m + 1 := ⟨j - 1, by omega⟩
      refine tri_reg mixed hcx ?_ _ _
      refine mv rfl ?_
      refine cgt rfl rfl (decide_eq_true (by omega)) ?_
      refine mv rfl ?_
      refine mv rfl ?_ (hg := gd1)
      refine mv rfl ?_ (hg := gd1)
      refine sb ((m : Int)) rfl rfl rfl (by omega) ?_ (hg := gd1)
      refine ix rfl rfl slLs ⟨rfl, by omega⟩ ?_ (hg := gd1)
      refine lf rfl tyU32 ?_ (hg := gd1)
      refine ceq rfl rfl rfl ?_ (hg := gd1)
      refine pk rfl rfl ?_
      refine ⟨by kernel_rfl, ?_⟩
      refine nx (sl 0 rfl (sl 3 rfl (sl 17 rfl sn))) en ?_
      refine tri_if rfl (fun hc => ?_) (fun hc => ?_)
      · rw [getD_at] at hc
        refine tri_skip ?_
        refine nx (sl 0 rfl (sl 3 rfl sn)) en ?_
        refine tri_block ?_
        refine tri_reg mixed hcx ?_ _ _
        refine mv rfl ?_
        refine sb _ rfl rfl rfl ⟨rfl, by omega, by omega⟩ ?_
        refine asg rfl ?_
        refine ⟨by kernel_rfl, ?_⟩
        refine pn_blk ?_
        exact pn_back m (by first | omega | (dsimp only; omega)) ⟨by omega, by rw [← ht]; simp [tl, hc]⟩ (sl 0 rfl (sw 3 rfl (ci (by omega)) sn)) en
      · rw [getD_at] at hc
        refine tri_exit ?_
        repeat (first | refine pn_then ?_ | refine pn_oth (by decide) ?_)
        refine pn_ex ?_
        exact pn_join () trivial (sl 0 rfl (sw 3 rfl (ci (by rw [← ht]; first | rfl | simp [tl, hc])) sn)) en
  · rintro _ _
    refine tri_sub (sl 0 rfl (sl 3 rfl sn)) en ?_
    have htl := Mt.tl_le xs xs.length
    refine tri_seq ?_
    refine tri_reg mixed hcx ?_ _ _
    refine asg rfl ?_
    refine ⟨by kernel_rfl, ?_⟩
    refine nx (sl 0 rfl (sl 3 rfl (sl 4 rfl sn))) en ?_
    refine tri_seq ?_
    refine tri_seq ?_
    refine tri_nil 4 9 119 cU rfl (by rw [hcx]; kernel_rfl) ?_
    refine tri_reg mixed hcx ?_ _ _
    refine asg rfl ?_
    refine ⟨by kernel_rfl, ?_⟩
    refine nx (sl 0 rfl (sl 3 rfl (sl 4 rfl (sl 5 rfl sn)))) (el 9 rfl en) ?_
    refine tri_block ?_
    refine tri_loop (ι := Nat) (fun j => [(0, T.l cU xs), (3, T.c (.int .i64 ((tl xs xs.length : Nat) : Int))), (4, T.o 9), (5, T.c (.int .i64 (j : Int)))]) (fun j => [(9, some (Ent.row cU 119 (xs.take j)))]) (fun j => tl xs xs.length - j) (fun j => (j ≤ tl xs xs.length)) 0 (Nat.zero_le _) (sl 0 rfl (sl 3 rfl (sl 4 rfl (sl 5 rfl sn)))) (ew 9 rfl (.of (by rw [List.take_zero])) en) ?_
    rintro j hj
    refine tri_sub (sl 0 rfl (sl 3 rfl (sl 4 rfl (sl 5 rfl sn)))) (el 9 rfl en) ?_
    refine tri_seq ?_
    refine tri_seq ?_
    refine tri_reg mixed hcx ?_ _ _
    refine mv rfl ?_
    refine mv rfl ?_
    refine clt rfl rfl rfl ?_
    refine ⟨by kernel_rfl, ?_⟩
    refine nx (sl 0 rfl (sl 3 rfl (sl 4 rfl (sl 5 rfl (sl 22 rfl sn))))) (el 9 rfl en) ?_
    refine tri_if rfl (fun hc => ?_) (fun hc => ?_)
    · refine tri_skip ?_
      refine nx (sl 0 rfl (sl 3 rfl (sl 4 rfl (sl 5 rfl sn)))) (el 9 rfl en) ?_
      refine tri_seq ?_
      refine tri_block ?_
      refine tri_reg mixed hcx ?_ _ _
      refine mv rfl ?_
      refine mv rfl ?_
      refine mv rfl ?_
      refine ix rfl rfl slLs ⟨rfl, by omega⟩ ?_
      refine lf rfl tyU32 ?_
      refine bl1 rfl slLs zvU32 ?_
      refine ap 816 rfl rfl rfl slLs (by simp only [List.length_take, List.length_cons, List.length_nil]; omega) (by decide) ?_
      refine asg rfl ?_
      refine ⟨by kernel_rfl, ?_⟩
      refine pn_blk ?_
      refine nx (sl 0 rfl (sl 3 rfl (sl 4 rfl (sl 5 rfl sn)))) (el 816 rfl en) ?_
      refine tri_reg mixed hcx ?_ _ _
      refine mv rfl ?_
      refine ad (((j + 1 : Nat) : Int)) rfl rfl rfl (by omega) ?_
      refine asg rfl ?_
      refine ⟨by kernel_rfl, ?_⟩
      refine pn_sub (sl 0 rfl (sl 3 rfl (sl 4 rfl (sl 5 rfl sn)))) (el 816 rfl en) ?_
      refine pn_ren 4 9 816 rfl rfl (by rw [hcx]; kernel_rfl) ?_
      exact pn_back (j + 1) (by first | omega | (dsimp only; omega)) (by omega) (sl 0 rfl (sl 3 rfl (sl 4 rfl (sl 5 rfl sn)))) (ew 9 rfl (.of (by rw [take_snoc' (by omega)])) en)
    · refine tri_exit ?_
      repeat (first | refine pn_then ?_ | refine pn_oth (by decide) ?_)
      refine pn_ex ?_
      obtain rfl : j = tl xs xs.length := by omega
      refine nx (sl 4 rfl sn) (el 9 rfl en) ?_
      refine tri_seq ?_
      refine tri_reg mixed hcx ?_ _ _
      refine mv rfl ?_
      refine asg rfl ?_
      refine ⟨by kernel_rfl, ?_⟩
      refine nx (sl 2 rfl sn) (el 9 rfl en) ?_
      refine tri_fz 9 rfl ?_
      refine tri_rd 2 9 rfl rfl ?_
      refine tri_ret ?_
      repeat (first | refine pn_thenr ?_ | refine pn_blkr ?_)
      exact ret1 hcx rfl (rv_tmp rfl) (.of (by rw [trim_dig hl hv])) en

theorem r01_Cmp {M N k l : Nat} (hk : k ≤ 17592186044416) (hl : l ≤ 17592186044416) : Fn Tryz.prog 112 [T.L M k, T.L N l] [] [] [] (T.c (.int .i64 (sgnc M N))) := by
  refine fn_of Tryz.func112 rfl (by show 2 ≤ 30; decide) fun cx hcx => ?_
  refine tri_sub (sl 0 rfl (sl 1 rfl sn)) en ?_
  refine tri_ex 0 rfl fun xs ⟨hl0, hv0, hb0⟩ => ?_
  refine tri_ex 1 rfl fun ys ⟨hl1, hv1, hb1⟩ => ?_
  have hM := lim_val hl0 hv0 hb0; have hN := lim_val hl1 hv1 hb1; unfold lim at hM hN
  refine tri_seq ?_
  refine tri_reg mixed hcx ?_ _ _
  refine asg rfl ?_
  refine ⟨by kernel_rfl, ?_⟩
  refine nx (sl 0 rfl (sl 1 rfl sn)) en ?_
  refine tri_seq ?_
  refine tri_seq ?_
  refine tri_reg mixed hcx ?_ _ _
  refine mv rfl ?_
  refine ln slLs rfl ?_
  refine mv rfl ?_
  refine ln slLs rfl ?_
  refine ca rfl (h := r01_most) (hn := ?_)
  refine sb ((((max xs.length ys.length : Nat) : Int) - 1)) rfl rfl rfl (by omega) ?_
  refine asg rfl ?_
  refine ⟨by kernel_rfl, ?_⟩
  refine nx (sl 0 rfl (sl 1 rfl (sl 5 rfl sn))) en ?_
  refine tri_block ?_
  refine tri_loop (ι := Nat) (fun j => [(0, T.l cU xs), (1, T.l cU ys), (5, T.c (.int .i64 ((j : Int) - 1)))]) (fun j => []) (fun j => j) (fun j => (j ≤ max xs.length ys.length) ∧ (val (xs.drop j) = val (ys.drop j))) (max xs.length ys.length) ⟨Nat.le_refl _, by rw [List.drop_eq_nil_of_le (by omega), List.drop_eq_nil_of_le (by omega)]⟩ (sl 0 rfl (sl 1 rfl (sl 5 rfl sn))) en ?_
  rintro j ⟨hj, hd⟩
  refine tri_sub (sl 0 rfl (sl 1 rfl (sl 5 rfl sn))) en ?_
  refine tri_seq ?_
  refine tri_seq ?_
  rcases Nat.eq_zero_or_pos j with h0 | h0
  · subst h0
    refine tri_reg mixed hcx ?_ _ _
    refine mv rfl ?_
    refine cge rfl rfl (decide_eq_false (by omega)) ?_
    refine ⟨by kernel_rfl, ?_⟩
    refine nx (sl 0 rfl (sl 1 rfl (sl 5 rfl (sl 15 rfl sn)))) en ?_
    refine tri_false rfl rfl ?_
    refine tri_exit ?_
    repeat (first | refine pn_then ?_ | refine pn_oth (by decide) ?_)
    refine pn_ex ?_
    refine nx sn en ?_
    refine tri_seq ?_
    refine tri_reg mixed hcx ?_ _ _
    refine asg rfl ?_
    refine ⟨by kernel_rfl, ?_⟩
    refine nx (sl 4 rfl sn) en ?_
    refine tri_ret ?_
    repeat (first | refine pn_thenr ?_ | refine pn_blkr ?_)
    exact ret1 hcx rfl (rv_tmp rfl) (ci (sgnc_eq (by rw [← hv0, ← hv1]; simpa using hd)).symm) en
  · obtain ⟨m, rfl⟩ : ∃ m, j = m + 1 := ⟨j - 1, by omega⟩
    refine tri_as 5 (Z := T.c (.int .i64 (m : Int))) rfl (ci (by omega)) ?_
    refine tri_reg mixed hcx ?_ _ _
    refine mv rfl ?_
    refine cge rfl rfl (decide_eq_true (by omega)) ?_
    refine ⟨by kernel_rfl, ?_⟩
    refine nx (sl 0 rfl (sl 1 rfl (sl 5 rfl (sl 15 rfl sn)))) en ?_
    refine tri_true rfl rfl ?_
    refine tri_skip ?_
    refine nx (sl 0 rfl (sl 1 rfl (sl 5 rfl sn))) en ?_
    refine tri_seq ?_
    refine tri_block ?_
    refine tri_seq ?_
    refine tri_reg mixed hcx ?_ _ _
    refine mv rfl ?_
    refine mv rfl ?_
    refine ca rfl (h := r01_limb (by first | exact dig_lim _ | assumption)) (hn := ?_)
    refine asg rfl ?_
    refine ⟨by kernel_rfl, ?_⟩
    refine nx (sl 0 rfl (sl 1 rfl (sl 5 rfl (sl 6 rfl sn)))) en ?_
    refine tri_seq ?_
    refine tri_reg mixed hcx ?_ _ _
    refine mv rfl ?_
    refine mv rfl ?_
    refine ca rfl (h := r01_limb (by first | exact dig_lim _ | assumption)) (hn := ?_)
    refine asg rfl ?_
    refine ⟨by kernel_rfl, ?_⟩
    refine nx (sl 0 rfl (sl 1 rfl (sl 5 rfl (sl 6 rfl (sl 7 rfl sn))))) en ?_
    refine tri_seq ?_
    refine tri_seq ?_
    refine tri_reg mixed hcx ?_ _ _
    refine mv rfl ?_
    refine mv rfl ?_
    refine clt rfl rfl rfl ?_
    refine ⟨by kernel_rfl, ?_⟩
    refine nx (sl 0 rfl (sl 1 rfl (sl 5 rfl (sl 6 rfl (sl 7 rfl (sl 26 rfl sn)))))) en ?_
    refine tri_if rfl (fun hx => ?_) (fun hx => ?_)
    · refine tri_seq ?_
      refine tri_reg mixed hcx ?_ _ _
      refine asg rfl ?_
      refine ⟨by kernel_rfl, ?_⟩
      refine nx (sl 4 rfl sn) en ?_
      refine tri_ret ?_
      repeat (first | refine pn_thenr ?_ | refine pn_blkr ?_)
      exact ret1 hcx rfl (rv_tmp rfl) (ci (sgnc_lt (by rw [← hv0, ← hv1]; exact Mt.cmp_lt hl0 hl1 hd hx)).symm) en
    · refine tri_skip ?_
      refine nx (sl 0 rfl (sl 1 rfl (sl 5 rfl (sl 6 rfl (sl 7 rfl sn))))) en ?_
      refine tri_seq ?_
      refine tri_reg mixed hcx ?_ _ _
      refine mv rfl ?_
      refine mv rfl ?_
      refine cgt rfl rfl rfl ?_
      refine ⟨by kernel_rfl, ?_⟩
      refine nx (sl 0 rfl (sl 1 rfl (sl 5 rfl (sl 29 rfl sn)))) en ?_
      refine tri_if rfl (fun hy => ?_) (fun hy => ?_)
      · refine tri_seq ?_
        refine tri_reg mixed hcx ?_ _ _
        refine asg rfl ?_
        refine ⟨by kernel_rfl, ?_⟩
        refine nx (sl 4 rfl sn) en ?_
        refine tri_ret ?_
        repeat (first | refine pn_thenr ?_ | refine pn_blkr ?_)
        exact ret1 hcx rfl (rv_tmp rfl) (ci (sgnc_gt (by rw [← hv0, ← hv1]; exact Mt.cmp_lt hl1 hl0 hd.symm hy)).symm) en
      · refine tri_skip ?_
        refine pn_blk ?_
        refine nx (sl 0 rfl (sl 1 rfl (sl 5 rfl sn))) en ?_
        refine tri_reg mixed hcx ?_ _ _
        refine mv rfl ?_
        refine sb _ rfl rfl rfl ⟨rfl, by omega, by omega⟩ ?_
        refine asg rfl ?_
        refine ⟨by kernel_rfl, ?_⟩
        exact pn_back m (by first | omega | (dsimp only; omega)) ⟨by omega, Mt.cmp_eq hd (by rw [← getD_at, ← getD_at]; omega) (by rw [← getD_at, ← getD_at]; omega)⟩ (sl 0 rfl (sl 1 rfl (sl 5 rfl sn))) en

theorem r01_Add {M N k l : Nat} (hk : k ≤ 8796093022208) (hl : l ≤ 8796093022208) : Fn Tryz.prog 111 [T.L M k, T.L N l] [] [] [] (T.l cU (dig (M + N))) := by
  refine fn_of Tryz.func111 rfl (by show 2 ≤ 41; decide) fun cx hcx => ?_
  refine tri_sub (sl 0 rfl (sl 1 rfl sn)) en ?_
  refine tri_ex 0 rfl fun xs ⟨hl0, hv0, hb0⟩ => ?_
  refine tri_ex 1 rfl fun ys ⟨hl1, hv1, hb1⟩ => ?_
  have hM := lim_val hl0 hv0 hb0; have hN := lim_val hl1 hv1 hb1; unfold lim at hM hN
  refine tri_seq ?_
  refine tri_reg mixed hcx ?_ _ _
  refine asg rfl ?_
  refine ⟨by kernel_rfl, ?_⟩
  refine nx (sl 0 rfl (sl 1 rfl sn)) en ?_
  refine tri_seq ?_
  refine tri_reg mixed hcx ?_ _ _
  refine asg rfl ?_
  refine ⟨by kernel_rfl, ?_⟩
  refine nx (sl 0 rfl (sl 1 rfl (sl 5 rfl sn))) en ?_
  refine tri_seq ?_
  refine tri_nil 5 9 119 cU rfl (by rw [hcx]; kernel_rfl) ?_
  refine tri_reg mixed hcx ?_ _ _
  refine asg rfl ?_
  refine ⟨by kernel_rfl, ?_⟩
  refine nx (sl 0 rfl (sl 1 rfl (sl 5 rfl (sl 6 rfl sn)))) (el 9 rfl en) ?_
  refine tri_seq ?_
  refine tri_seq ?_
  refine tri_reg mixed hcx ?_ _ _
  refine asg rfl ?_
  refine ⟨by kernel_rfl, ?_⟩
  refine nx (sl 0 rfl (sl 1 rfl (sl 5 rfl (sl 6 rfl (sl 7 rfl sn))))) (el 9 rfl en) ?_
  refine tri_block ?_
  refine tri_loop (ι := Nat × Int × List Int) (fun (j, c, zs) => [(0, T.l cU xs), (1, T.l cU ys), (5, T.o 9), (6, T.c (.int .u64 c)), (7, T.c (.int .i64 (j : Int)))]) (fun (j, c, zs) => [(9, some (Ent.row cU 119 (zs)))]) (fun (j, c, zs) => max xs.length ys.length - j) (fun (j, c, zs) => (j ≤ max xs.length ys.length) ∧ (Mt.sumI xs ys zs j c)) (0, 0, []) ⟨Nat.zero_le _, Mt.sumI_start _ _⟩ (sl 0 rfl (sl 1 rfl (sl 5 rfl (sl 6 rfl (sl 7 rfl sn))))) (el 9 rfl en) ?_
  rintro ⟨j, c, zs⟩ ⟨hj, hR⟩
  refine tri_sub (sl 0 rfl (sl 1 rfl (sl 5 rfl (sl 6 rfl (sl 7 rfl sn))))) (el 9 rfl en) ?_
  refine tri_seq ?_
  refine tri_seq ?_
  refine tri_reg mixed hcx ?_ _ _
  refine mv rfl ?_
  refine mv rfl ?_
  refine ln slLs rfl ?_
  refine mv rfl ?_
  refine ln slLs rfl ?_
  refine ca rfl (h := r01_most) (hn := ?_)
  refine clt rfl rfl rfl ?_
  refine ⟨by kernel_rfl, ?_⟩
  refine nx (sl 0 rfl (sl 1 rfl (sl 5 rfl (sl 6 rfl (sl 7 rfl (sl 14 rfl sn)))))) (el 9 rfl en) ?_
  refine tri_if rfl (fun hc => ?_) (fun hc => ?_)
  · have bx := gd hl0 j; have bY := gd hl1 j; have bc := hR.1; have bd := hR.2.1; have hzl := hR.2.2.1
    refine tri_skip ?_
    refine nx (sl 0 rfl (sl 1 rfl (sl 5 rfl (sl 6 rfl (sl 7 rfl sn))))) (el 9 rfl en) ?_
    refine tri_seq ?_
    refine tri_block ?_
    refine tri_seq ?_
    refine tri_reg mixed hcx ?_ _ _
    refine mv rfl ?_
    refine mv rfl ?_
    refine mv rfl ?_
    refine ca rfl (h := r01_limb (by first | exact dig_lim _ | assumption)) (hn := ?_)
    refine ad _ rfl rfl rfl ⟨rfl, by omega, by omega⟩ ?_
    refine mv rfl ?_
    refine mv rfl ?_
    refine ca rfl (h := r01_limb (by first | exact dig_lim _ | assumption)) (hn := ?_)
    refine ad _ rfl rfl rfl ⟨rfl, by omega, by omega⟩ ?_
    refine asg rfl ?_
    refine ⟨by kernel_rfl, ?_⟩
    refine nx (sl 0 rfl (sl 1 rfl (sl 5 rfl (sl 6 rfl (sl 7 rfl sn))))) (el 9 rfl en) ?_
    refine tri_seq ?_
    refine tri_reg mixed hcx ?_ _ _
    refine mv rfl ?_
    refine mv rfl ?_
    refine re _ rfl rfl ⟨rfl, by omega, by omega⟩ ?_
    refine cvm ((c + xs.getD j cU.dflt + ys.getD j cU.dflt) % 4294967296) rfl cvU64U32 (by omega) ?_
    refine bl1 rfl slLs zvU32 ?_
    refine ap 715 rfl rfl rfl slLs (by simp only [List.length_cons, List.length_nil]; omega) (by decide) ?_
    refine asg rfl ?_
    refine ⟨by kernel_rfl, ?_⟩
    refine nx (sl 0 rfl (sl 1 rfl (sl 5 rfl (sl 6 rfl (sl 7 rfl sn))))) (el 715 rfl en) ?_
    refine tri_reg mixed hcx ?_ _ _
    refine mv rfl ?_
    refine qo _ rfl rfl rfl ⟨rfl, by omega, by omega, by omega⟩ ?_
    refine asg rfl ?_
    refine ⟨by kernel_rfl, ?_⟩
    refine pn_blk ?_
    refine nx (sl 0 rfl (sl 1 rfl (sl 5 rfl (sl 6 rfl (sl 7 rfl sn))))) (el 715 rfl en) ?_
    refine tri_reg mixed hcx ?_ _ _
    refine mv rfl ?_
    refine ad (((j + 1 : Nat) : Int)) rfl rfl rfl (by omega) ?_
    refine asg rfl ?_
    refine ⟨by kernel_rfl, ?_⟩
    refine pn_sub (sl 0 rfl (sl 1 rfl (sl 5 rfl (sl 6 rfl (sl 7 rfl sn))))) (el 715 rfl en) ?_
    refine pn_ren 5 9 715 rfl rfl (by rw [hcx]; kernel_rfl) ?_
    exact pn_back (j + 1, (c + xs.getD j cU.dflt + ys.getD j cU.dflt) / 4294967296, zs ++ [(c + xs.getD j cU.dflt + ys.getD j cU.dflt) % 4294967296]) (by first | omega | (dsimp only; omega)) ⟨by omega, Mt.sumI_step hR hl0 hl1⟩ (sl 0 rfl (sl 1 rfl (sl 5 rfl (sl 6 rfl (sl 7 rfl sn))))) (el 9 rfl en)
  · refine tri_exit ?_
    repeat (first | refine pn_then ?_ | refine pn_oth (by decide) ?_)
    refine pn_ex ?_
    have bx := gd hl0 j; have bY := gd hl1 j; have bc := hR.1; have bd := hR.2.1; have hzl := hR.2.2.1
    have hE := Mt.sumI_end hR (by omega) (by omega); have hE1 : val (zs ++ [c]) = ((M + N : Nat) : Int) := by rw [hE.1]; omega
    have hE2 := hE.2; have hE3 : (zs ++ [c]).length ≤ j + 1 := by rw [List.length_append, hzl]; exact Nat.le_refl _
    refine nx (sl 5 rfl (sl 6 rfl sn)) (el 9 rfl en) ?_
    refine tri_seq ?_
    refine tri_reg mixed hcx ?_ _ _
    refine mv rfl ?_
    refine mv rfl ?_
    refine cvm (c) rfl cvU64U32 (by omega) ?_
    refine bl1 rfl slLs zvU32 ?_
    refine ap 914 rfl rfl rfl slLs (by simp only [List.length_cons, List.length_nil]; omega) (by decide) ?_
    refine asg rfl ?_
    refine ⟨by kernel_rfl, ?_⟩
    refine nx (sl 5 rfl sn) (el 914 rfl en) ?_
    refine tri_seq ?_
    refine tri_fz 914 rfl ?_
    refine tri_rd 5 914 rfl rfl ?_
    refine tri_reg mixed hcx ?_ _ _
    refine mv rfl ?_
    refine ca rfl (h := r01_Norm (by omega)) (hn := ?_)
    refine asg rfl ?_
    refine ⟨by kernel_rfl, ?_⟩
    refine nx (sl 4 rfl sn) (el 914 rfl en) ?_
    refine tri_ret ?_
    repeat (first | refine pn_thenr ?_ | refine pn_blkr ?_)
    exact ret1 hcx rfl (rv_tmp rfl) (.refl _) en

theorem r01_less {M N k l : Nat} (hk : k ≤ 8796093022208) (hl : l ≤ 8796093022208) (hle : N ≤ M) : Fn Tryz.prog 159 [T.L M k, T.L N l] [] [] [] (T.l cU (dig (M - N))) := by
  refine fn_of Tryz.func159 rfl (by show 2 ≤ 38; decide) fun cx hcx => ?_
  refine tri_sub (sl 0 rfl (sl 1 rfl sn)) en ?_
  refine tri_ex 0 rfl fun xs ⟨hl0, hv0, hb0⟩ => ?_
  refine tri_ex 1 rfl fun ys ⟨hl1, hv1, hb1⟩ => ?_
  have hM := lim_val hl0 hv0 hb0; have hN := lim_val hl1 hv1 hb1; unfold lim at hM hN
  refine tri_seq ?_
  refine tri_reg mixed hcx ?_ _ _
  refine asg rfl ?_
  refine ⟨by kernel_rfl, ?_⟩
  refine nx (sl 0 rfl (sl 1 rfl sn)) en ?_
  refine tri_seq ?_
  refine tri_reg mixed hcx ?_ _ _
  refine asg rfl ?_
  refine ⟨by kernel_rfl, ?_⟩
  refine nx (sl 0 rfl (sl 1 rfl (sl 5 rfl sn))) en ?_
  refine tri_seq ?_
  refine tri_nil 5 9 119 cU rfl (by rw [hcx]; kernel_rfl) ?_
  refine tri_reg mixed hcx ?_ _ _
  refine asg rfl ?_
  refine ⟨by kernel_rfl, ?_⟩
  refine nx (sl 0 rfl (sl 1 rfl (sl 5 rfl (sl 6 rfl sn)))) (el 9 rfl en) ?_
  refine tri_seq ?_
  refine tri_seq ?_
  refine tri_reg mixed hcx ?_ _ _
  refine asg rfl ?_
  refine ⟨by kernel_rfl, ?_⟩
  refine nx (sl 0 rfl (sl 1 rfl (sl 5 rfl (sl 6 rfl (sl 7 rfl sn))))) (el 9 rfl en) ?_
  refine tri_block ?_
  refine tri_loop (ι := Nat × Int × List Int) (fun (j, c, zs) => [(0, T.l cU xs), (1, T.l cU ys), (5, T.o 9), (6, T.c (.int .u64 c)), (7, T.c (.int .i64 (j : Int)))]) (fun (j, c, zs) => [(9, some (Ent.row cU 119 (zs)))]) (fun (j, c, zs) => xs.length - j) (fun (j, c, zs) => (j ≤ xs.length) ∧ (Mt.difI xs ys zs j c)) (0, 0, []) ⟨Nat.zero_le _, Mt.difI_start _ _⟩ (sl 0 rfl (sl 1 rfl (sl 5 rfl (sl 6 rfl (sl 7 rfl sn))))) (el 9 rfl en) ?_
  rintro ⟨j, c, zs⟩ ⟨hj, hR⟩
  refine tri_sub (sl 0 rfl (sl 1 rfl (sl 5 rfl (sl 6 rfl (sl 7 rfl sn))))) (el 9 rfl en) ?_
  refine tri_seq ?_
  refine tri_seq ?_
  refine tri_reg mixed hcx ?_ _ _
  refine mv rfl ?_
  refine mv rfl ?_
  refine ln slLs rfl ?_
  refine clt rfl rfl rfl ?_
  refine ⟨by kernel_rfl, ?_⟩
  refine nx (sl 0 rfl (sl 1 rfl (sl 5 rfl (sl 6 rfl (sl 7 rfl (sl 13 rfl sn)))))) (el 9 rfl en) ?_
  refine tri_if rfl (fun hc => ?_) (fun hc => ?_)
  · have bx := gd hl0 j; have bY := gd hl1 j; have bc := hR.1; have bd := hR.2.1; have hzl := hR.2.2.1
    refine tri_skip ?_
    refine nx (sl 0 rfl (sl 1 rfl (sl 5 rfl (sl 6 rfl (sl 7 rfl sn))))) (el 9 rfl en) ?_
    refine tri_seq ?_
    refine tri_block ?_
    refine tri_seq ?_
    refine tri_reg mixed hcx ?_ _ _
    refine mv rfl ?_
    refine mv rfl ?_
    refine ca rfl (h := r01_limb (by first | exact dig_lim _ | assumption)) (hn := ?_)
    refine asg rfl ?_
    refine ⟨by kernel_rfl, ?_⟩
    refine nx (sl 0 rfl (sl 1 rfl (sl 5 rfl (sl 6 rfl (sl 7 rfl (sl 8 rfl sn)))))) (el 9 rfl en) ?_
    refine tri_seq ?_
    refine tri_reg mixed hcx ?_ _ _
    refine mv rfl ?_
    refine mv rfl ?_
    refine ca rfl (h := r01_limb (by first | exact dig_lim _ | assumption)) (hn := ?_)
    refine mv rfl ?_
    refine ad _ rfl rfl rfl ⟨rfl, by omega, by omega⟩ ?_
    refine asg rfl ?_
    refine ⟨by kernel_rfl, ?_⟩
    refine nx (sl 0 rfl (sl 1 rfl (sl 5 rfl (sl 7 rfl (sl 8 rfl (sl 9 rfl sn)))))) (el 9 rfl en) ?_
    refine tri_seq ?_
    refine tri_reg mixed hcx ?_ _ _
    refine asg rfl ?_
    refine ⟨by kernel_rfl, ?_⟩
    refine nx (sl 0 rfl (sl 1 rfl (sl 5 rfl (sl 6 rfl (sl 7 rfl (sl 8 rfl (sl 9 rfl sn))))))) (el 9 rfl en) ?_
    refine tri_seq ?_
    refine tri_seq ?_
    refine tri_reg mixed hcx ?_ _ _
    refine mv rfl ?_
    refine mv rfl ?_
    refine clt rfl rfl rfl ?_
    refine ⟨by kernel_rfl, ?_⟩
    refine nx (sl 0 rfl (sl 1 rfl (sl 5 rfl (sl 6 rfl (sl 7 rfl (sl 8 rfl (sl 9 rfl (sl 26 rfl sn)))))))) (el 9 rfl en) ?_
    refine tri_if rfl (fun hx => ?_) (fun hx => ?_)
    · refine tri_seq ?_
      refine tri_reg mixed hcx ?_ _ _
      refine mv rfl ?_
      refine ad _ rfl rfl rfl ⟨rfl, by omega, by omega⟩ ?_
      refine asg rfl ?_
      refine ⟨by kernel_rfl, ?_⟩
      refine nx (sl 0 rfl (sl 1 rfl (sl 5 rfl (sl 7 rfl (sl 8 rfl (sl 9 rfl sn)))))) (el 9 rfl en) ?_
      refine tri_reg mixed hcx ?_ _ _
      refine asg rfl ?_
      refine ⟨by kernel_rfl, ?_⟩
      refine nx (sl 0 rfl (sl 1 rfl (sl 5 rfl (sl 6 rfl (sl 7 rfl (sl 8 rfl (sl 9 rfl sn))))))) (el 9 rfl en) ?_
      refine tri_reg mixed hcx ?_ _ _
      refine mv rfl ?_
      refine mv rfl ?_
      refine mv rfl ?_
      refine sb _ rfl rfl rfl ⟨rfl, by omega, by omega⟩ ?_
      refine cvm (xs.getD j cU.dflt + 4294967296 - (ys.getD j cU.dflt + c)) rfl cvU64U32 (by omega) ?_
      refine bl1 rfl slLs zvU32 ?_
      refine ap 1216 rfl rfl rfl slLs (by simp only [List.length_cons, List.length_nil]; omega) (by decide) ?_
      refine asg rfl ?_
      refine ⟨by kernel_rfl, ?_⟩
      refine pn_blk ?_
      refine nx (sl 0 rfl (sl 1 rfl (sl 5 rfl (sl 6 rfl (sl 7 rfl sn))))) (el 1216 rfl en) ?_
      refine tri_reg mixed hcx ?_ _ _
      refine mv rfl ?_
      refine ad (((j + 1 : Nat) : Int)) rfl rfl rfl (by omega) ?_
      refine asg rfl ?_
      refine ⟨by kernel_rfl, ?_⟩
      refine pn_sub (sl 0 rfl (sl 1 rfl (sl 5 rfl (sl 6 rfl (sl 7 rfl sn))))) (el 1216 rfl en) ?_
      refine pn_ren 5 9 1216 rfl rfl (by rw [hcx]; kernel_rfl) ?_
      exact pn_back (j + 1, 1, zs ++ [xs.getD j cU.dflt + 4294967296 - (ys.getD j cU.dflt + c)]) (by first | omega | (dsimp only; omega)) ⟨by omega, Mt.difI_step hR hl0 hl1 (xs.getD j cU.dflt + 4294967296 - (ys.getD j cU.dflt + c)) 1 (by rw [← getD_at, ← getD_at]; omega) (by omega) (by omega) (by omega) (by omega)⟩ (sl 0 rfl (sl 1 rfl (sl 5 rfl (sl 6 rfl (sl 7 rfl sn))))) (el 9 rfl en)
    · refine tri_skip ?_
      refine nx (sl 0 rfl (sl 1 rfl (sl 5 rfl (sl 6 rfl (sl 7 rfl (sl 8 rfl (sl 9 rfl sn))))))) (el 9 rfl en) ?_
      refine tri_reg mixed hcx ?_ _ _
      refine mv rfl ?_
      refine mv rfl ?_
      refine mv rfl ?_
      refine sb _ rfl rfl rfl ⟨rfl, by omega, by omega⟩ ?_
      refine cvm (xs.getD j cU.dflt - (ys.getD j cU.dflt + c)) rfl cvU64U32 (by omega) ?_
      refine bl1 rfl slLs zvU32 ?_
      refine ap 1216 rfl rfl rfl slLs (by simp only [List.length_cons, List.length_nil]; omega) (by decide) ?_
      refine asg rfl ?_
      refine ⟨by kernel_rfl, ?_⟩
      refine pn_blk ?_
      refine nx (sl 0 rfl (sl 1 rfl (sl 5 rfl (sl 6 rfl (sl 7 rfl sn))))) (el 1216 rfl en) ?_
      refine tri_reg mixed hcx ?_ _ _
      refine mv rfl ?_
      refine ad (((j + 1 : Nat) : Int)) rfl rfl rfl (by omega) ?_
      refine asg rfl ?_
      refine ⟨by kernel_rfl, ?_⟩
      refine pn_sub (sl 0 rfl (sl 1 rfl (sl 5 rfl (sl 6 rfl (sl 7 rfl sn))))) (el 1216 rfl en) ?_
      refine pn_ren 5 9 1216 rfl rfl (by rw [hcx]; kernel_rfl) ?_
      exact pn_back (j + 1, 0, zs ++ [xs.getD j cU.dflt - (ys.getD j cU.dflt + c)]) (by first | omega | (dsimp only; omega)) ⟨by omega, Mt.difI_step hR hl0 hl1 (xs.getD j cU.dflt - (ys.getD j cU.dflt + c)) 0 (by rw [← getD_at, ← getD_at]; omega) (by omega) (by omega) (by omega) (by omega)⟩ (sl 0 rfl (sl 1 rfl (sl 5 rfl (sl 6 rfl (sl 7 rfl sn))))) (el 9 rfl en)
  · refine tri_exit ?_
    repeat (first | refine pn_then ?_ | refine pn_oth (by decide) ?_)
    refine pn_ex ?_
    have hE1 : val zs = ((M - N : Nat) : Int) := by rw [Mt.difI_end hR (by omega) hl0 hl1 (by omega)]; omega
    have hE2 := hR.2.2.2.1; have hE3 : zs.length ≤ j := Nat.le_of_eq hR.2.2.1
    refine nx (sl 5 rfl sn) (el 9 rfl en) ?_
    refine tri_seq ?_
    refine tri_fz 9 rfl ?_
    refine tri_rd 5 9 rfl rfl ?_
    refine tri_reg mixed hcx ?_ _ _
    refine mv rfl ?_
    refine ca rfl (h := r01_Norm (by omega)) (hn := ?_)
    refine asg rfl ?_
    refine ⟨by kernel_rfl, ?_⟩
    refine nx (sl 4 rfl sn) (el 9 rfl en) ?_
    refine tri_ret ?_
    repeat (first | refine pn_thenr ?_ | refine pn_blkr ?_)
    exact ret1 hcx rfl (rv_tmp rfl) (.refl _) en

theorem r01_Sub {M N k l : Nat} (hk : k ≤ 8796093022208) (hl : l ≤ 8796093022208) (hle : N ≤ M) : Fn Tryz.prog 113 [T.L M k, T.L N l] [] [] [] (T.tup [T.l cU (dig (M - N)), T.c (.int .i64 0)]) := by
  refine fn_of Tryz.func113 rfl (by show 2 ≤ 13; decide) fun cx hcx => ?_
  refine tri_sub (sl 0 rfl (sl 1 rfl sn)) en ?_
  have hs := sgnc_ge0 hle
  refine tri_seq ?_
  refine tri_reg mixed hcx ?_ _ _
  refine asg rfl ?_
  refine asg rfl ?_
  refine ⟨by kernel_rfl, ?_⟩
  refine nx (sl 0 rfl (sl 1 rfl sn)) en ?_
  refine tri_seq ?_
  refine tri_seq ?_
  refine tri_reg mixed hcx ?_ _ _
  refine mv rfl ?_
  refine mv rfl ?_
  refine ca rfl (h := r01_Cmp (by omega) (by omega)) (hn := ?_)
  refine clt rfl rfl (decide_eq_false (by omega)) ?_
  refine ⟨by kernel_rfl, ?_⟩
  refine nx (sl 0 rfl (sl 1 rfl (sl 9 rfl sn))) en ?_
  refine tri_false rfl rfl ?_
  refine tri_skip ?_
  refine nx (sl 0 rfl (sl 1 rfl sn)) en ?_
  refine tri_seq ?_
  refine tri_reg mixed hcx ?_ _ _
  refine mv rfl ?_
  refine mv rfl ?_
  refine ca rfl (h := r01_less (by omega) (by omega) (by omega)) (hn := ?_)
  refine asg rfl ?_
  refine asg rfl ?_
  refine ⟨by kernel_rfl, ?_⟩
  refine nx (sl 4 rfl (sl 5 rfl sn)) en ?_
  refine tri_ret ?_
  repeat (first | refine pn_thenr ?_ | refine pn_blkr ?_)
  exact ret2 hcx rfl (rv_tmp rfl) (rv_tmp rfl) (.refl _) en

theorem r01_Mul {M N k l : Nat} (hk : k ≤ 8796093022208) (hl : l ≤ 8796093022208) : Fn Tryz.prog 119 [T.L M k, T.L N l] [] [] [] (T.l cU (dig (M * N))) := by
  refine fn_of Tryz.func119 rfl (by show 2 ≤ 68; decide) fun cx hcx => ?_
  refine tri_sub (sl 0 rfl (sl 1 rfl sn)) en ?_
  refine tri_ex 0 rfl fun xs ⟨hl0, hv0, hb0⟩ => ?_
  refine tri_ex 1 rfl fun ys ⟨hl1, hv1, hb1⟩ => ?_
  have hM := lim_val hl0 hv0 hb0; have hN := lim_val hl1 hv1 hb1; unfold lim at hM hN
  refine tri_seq ?_
  refine tri_reg mixed hcx ?_ _ _
  refine asg rfl ?_
  refine ⟨by kernel_rfl, ?_⟩
  refine nx (sl 0 rfl (sl 1 rfl sn)) en ?_
  refine tri_seq ?_
  refine tri_reg mixed hcx ?_ _ _
  refine mv rfl ?_
  refine ln slLs rfl ?_
  refine mv rfl ?_
  refine ln slLs rfl ?_
  refine ad (((xs.length + ys.length : Nat) : Int)) rfl rfl rfl (by omega) ?_
  refine mkz (c := cU) (n := xs.length + ys.length) 115 slLs rfl (by omega) (fun u => ⟨zvU32, zrU u⟩) (by decide) ?_
  refine asg rfl ?_
  refine ⟨by kernel_rfl, ?_⟩
  refine nx (sl 0 rfl (sl 1 rfl (sl 5 rfl sn))) (el 115 rfl en) ?_
  refine tri_seq ?_
  refine tri_seq ?_
  refine tri_reg mixed hcx ?_ _ _
  refine asg rfl ?_
  refine ⟨by kernel_rfl, ?_⟩
  refine nx (sl 0 rfl (sl 1 rfl (sl 5 rfl (sl 6 rfl sn)))) (el 115 rfl en) ?_
  refine tri_block ?_
  refine tri_loop (ι := Nat × List Int) (fun (i, zs) => [(0, T.l cU xs), (1, T.l cU ys), (5, T.o 115), (6, T.c (.int .i64 (i : Int)))]) (fun (i, zs) => [(115, some (Ent.row cU 119 (zs)))]) (fun (i, zs) => xs.length - i) (fun (i, zs) => (i ≤ xs.length) ∧ (Mt.mulO xs ys zs i)) (0, List.replicate (xs.length + ys.length) 0) ⟨Nat.zero_le _, Mt.mulO_start _ _⟩ (sl 0 rfl (sl 1 rfl (sl 5 rfl (sl 6 rfl sn)))) (el 115 rfl en) ?_
  rintro ⟨i, zs⟩ ⟨hi, hO⟩
  refine tri_sub (sl 0 rfl (sl 1 rfl (sl 5 rfl (sl 6 rfl sn)))) (el 115 rfl en) ?_
  refine tri_seq ?_
  refine tri_seq ?_
  refine tri_reg mixed hcx ?_ _ _
  refine mv rfl ?_
  refine mv rfl ?_
  refine ln slLs rfl ?_
  refine clt rfl rfl rfl ?_
  refine ⟨by kernel_rfl, ?_⟩
  refine nx (sl 0 rfl (sl 1 rfl (sl 5 rfl (sl 6 rfl (sl 18 rfl sn))))) (el 115 rfl en) ?_
  refine tri_if rfl (fun hc => ?_) (fun hc => ?_)
  · refine tri_skip ?_
    refine nx (sl 0 rfl (sl 1 rfl (sl 5 rfl (sl 6 rfl sn)))) (el 115 rfl en) ?_
    refine tri_seq ?_
    refine tri_block ?_
    refine tri_seq ?_
    refine tri_reg mixed hcx ?_ _ _
    refine asg rfl ?_
    refine ⟨by kernel_rfl, ?_⟩
    refine nx (sl 0 rfl (sl 1 rfl (sl 5 rfl (sl 6 rfl (sl 7 rfl sn))))) (el 115 rfl en) ?_
    refine tri_seq ?_
    refine tri_seq ?_
    refine tri_reg mixed hcx ?_ _ _
    refine asg rfl ?_
    refine ⟨by kernel_rfl, ?_⟩
    refine nx (sl 0 rfl (sl 1 rfl (sl 5 rfl (sl 6 rfl (sl 7 rfl (sl 8 rfl sn)))))) (el 115 rfl en) ?_
    refine tri_block ?_
    refine tri_loop (ι := Nat × Int × List Int) (fun (j, c, zs) => [(0, T.l cU xs), (1, T.l cU ys), (5, T.o 115), (6, T.c (.int .i64 (i : Int))), (7, T.c (.int .u64 c)), (8, T.c (.int .i64 (j : Int)))]) (fun (j, c, zs) => [(115, some (Ent.row cU 119 (zs)))]) (fun (j, c, zs) => ys.length - j) (fun (j, c, zs) => (j ≤ ys.length) ∧ (Mt.mulI xs ys zs i j c)) (0, 0, zs) ⟨Nat.zero_le _, Mt.mulI_start hO⟩ (sl 0 rfl (sl 1 rfl (sl 5 rfl (sl 6 rfl (sl 7 rfl (sl 8 rfl sn)))))) (el 115 rfl en) ?_
    rintro ⟨j, c, zs⟩ ⟨hj, hI⟩
    refine tri_sub (sl 0 rfl (sl 1 rfl (sl 5 rfl (sl 6 rfl (sl 7 rfl (sl 8 rfl sn)))))) (el 115 rfl en) ?_
    refine tri_seq ?_
    refine tri_seq ?_
    refine tri_reg mixed hcx ?_ _ _
    refine mv rfl ?_
    refine mv rfl ?_
    refine ln slLs rfl ?_
    refine clt rfl rfl rfl ?_
    refine ⟨by kernel_rfl, ?_⟩
    refine nx (sl 0 rfl (sl 1 rfl (sl 5 rfl (sl 6 rfl (sl 7 rfl (sl 8 rfl (sl 24 rfl sn))))))) (el 115 rfl en) ?_
    refine tri_if rfl (fun hd => ?_) (fun hd => ?_)
    · have bx := gd hl0 i; have bY := gd hl1 j; have bz := gd hI.2.2.2.1 (i + j); have bc := hI.1; have bd := hI.2.1; have hzl := hI.2.2.1; have hm := Mt.mul_bd bx.1 bx.2 bY.1 bY.2
      refine tri_skip ?_
      refine nx (sl 0 rfl (sl 1 rfl (sl 5 rfl (sl 6 rfl (sl 7 rfl (sl 8 rfl sn)))))) (el 115 rfl en) ?_
      refine tri_seq ?_
      refine tri_block ?_
      refine tri_seq ?_
      refine tri_reg mixed hcx ?_ _ _
      refine mv rfl ?_
      refine mv rfl ?_
      refine mv rfl ?_
      refine mv rfl ?_
      refine ad (((i + j : Nat) : Int)) rfl rfl rfl (by omega) ?_
      refine ixo rfl rfl rfl slLs ⟨rfl, by omega⟩ ?_
      refine lo _ rfl rfl tyU32 ⟨rfl, rfl, by omega⟩ ?_
      refine cvt _ rfl cvU32U64 rfl ⟨rfl, by omega, by omega⟩ ?_
      refine ad _ rfl rfl rfl ⟨rfl, by omega, by omega⟩ ?_
      refine mv rfl ?_
      refine mv rfl ?_
      refine ix rfl rfl slLs ⟨rfl, by omega⟩ ?_
      refine lf rfl tyU32 ?_
      refine cvt _ rfl cvU32U64 rfl ⟨rfl, by omega, by omega⟩ ?_
      refine mv rfl ?_
      refine mv rfl ?_
      refine ix rfl rfl slLs ⟨rfl, by omega⟩ ?_
      refine lf rfl tyU32 ?_
      refine cvt _ rfl cvU32U64 rfl ⟨rfl, by omega, by omega⟩ ?_
      refine ml _ rfl rfl rfl ⟨rfl, by omega, by omega⟩ ?_
      refine ad _ rfl rfl rfl ⟨rfl, by omega, by omega⟩ ?_
      refine asg rfl ?_
      refine ⟨by kernel_rfl, ?_⟩
      refine nx (sl 0 rfl (sl 1 rfl (sl 5 rfl (sl 6 rfl (sl 7 rfl (sl 8 rfl sn)))))) (el 115 rfl en) ?_
      refine tri_seq ?_
      refine tri_reg mixed hcx ?_ _ _
      refine mv rfl ?_
      refine mv rfl ?_
      refine mv rfl ?_
      refine ad (((i + j : Nat) : Int)) rfl rfl rfl (by omega) ?_
      refine mv rfl ?_
      refine re _ rfl rfl ⟨rfl, by omega, by omega⟩ ?_
      refine cvm ((c + zs.getD (i + j) cU.dflt + xs.getD i cU.dflt * ys.getD j cU.dflt) % 4294967296) rfl cvU64U32 (by omega) ?_
      refine ixo rfl rfl rfl slLs ⟨rfl, by omega⟩ ?_
      refine so rfl rfl rfl (.refl _) tyU32 ⟨rfl, by omega⟩ ?_
      refine ⟨by kernel_rfl, ?_⟩
      refine nx (sl 0 rfl (sl 1 rfl (sl 5 rfl (sl 6 rfl (sl 7 rfl (sl 8 rfl sn)))))) (el 115 rfl en) ?_
      refine tri_reg mixed hcx ?_ _ _
      refine mv rfl ?_
      refine qo _ rfl rfl rfl ⟨rfl, by omega, by omega, by omega⟩ ?_
      refine asg rfl ?_
      refine ⟨by kernel_rfl, ?_⟩
      refine pn_blk ?_
      refine nx (sl 0 rfl (sl 1 rfl (sl 5 rfl (sl 6 rfl (sl 7 rfl (sl 8 rfl sn)))))) (el 115 rfl en) ?_
      refine tri_reg mixed hcx ?_ _ _
      refine mv rfl ?_
      refine ad (((j + 1 : Nat) : Int)) rfl rfl rfl (by omega) ?_
      refine asg rfl ?_
      refine ⟨by kernel_rfl, ?_⟩
      exact pn_back (j + 1, (c + zs.getD (i + j) cU.dflt + xs.getD i cU.dflt * ys.getD j cU.dflt) / 4294967296, zs.set (i + j) ((c + zs.getD (i + j) cU.dflt + xs.getD i cU.dflt * ys.getD j cU.dflt) % 4294967296)) (by first | omega | (dsimp only; omega)) ⟨by omega, Mt.mulI_step hI (by omega) (by omega) hl0 hl1 rfl⟩ (sl 0 rfl (sl 1 rfl (sl 5 rfl (sl 6 rfl (sl 7 rfl (sl 8 rfl sn)))))) (el 115 rfl en)
    · refine tri_exit ?_
      repeat (first | refine pn_then ?_ | refine pn_oth (by decide) ?_)
      refine pn_ex ?_
      obtain rfl : j = ys.length := by omega
      have hzl := hI.2.2.1; have bc := hI.1; have bd := hI.2.1
      refine nx (sl 0 rfl (sl 1 rfl (sl 5 rfl (sl 6 rfl (sl 7 rfl sn))))) (el 115 rfl en) ?_
      refine tri_reg mixed hcx ?_ _ _
      refine mv rfl ?_
      refine mv rfl ?_
      refine mv rfl ?_
      refine ln slLs rfl ?_
      refine ad (((i + ys.length : Nat) : Int)) rfl rfl rfl (by omega) ?_
      refine mv rfl ?_
      refine cvm (c) rfl cvU64U32 (by omega) ?_
      refine ixo rfl rfl rfl slLs ⟨rfl, by omega⟩ ?_
      refine so rfl rfl rfl (.refl _) tyU32 ⟨rfl, by omega⟩ ?_
      refine ⟨by kernel_rfl, ?_⟩
      refine pn_blk ?_
      refine nx (sl 0 rfl (sl 1 rfl (sl 5 rfl (sl 6 rfl sn)))) (el 115 rfl en) ?_
      refine tri_reg mixed hcx ?_ _ _
      refine mv rfl ?_
      refine ad (((i + 1 : Nat) : Int)) rfl rfl rfl (by omega) ?_
      refine asg rfl ?_
      refine ⟨by kernel_rfl, ?_⟩
      exact pn_back (i + 1, zs.set (i + ys.length) c) (by first | omega | (dsimp only; omega)) ⟨by omega, Mt.mulI_end hI (by omega)⟩ (sl 0 rfl (sl 1 rfl (sl 5 rfl (sl 6 rfl sn)))) (el 115 rfl en)
  · refine tri_exit ?_
    repeat (first | refine pn_then ?_ | refine pn_oth (by decide) ?_)
    refine pn_ex ?_
    have hE1 : val zs = ((M * N : Nat) : Int) := by rw [Mt.mulO_end hO (by omega), hv0, hv1, Int.natCast_mul]
    have hE2 := hO.2.1; have hE3 : zs.length ≤ xs.length + ys.length := Nat.le_of_eq hO.1
    refine nx (sl 5 rfl sn) (el 115 rfl en) ?_
    refine tri_seq ?_
    refine tri_fz 115 rfl ?_
    refine tri_rd 5 115 rfl rfl ?_
    refine tri_reg mixed hcx ?_ _ _
    refine mv rfl ?_
    refine ca rfl (h := r01_Norm (by omega)) (hn := ?_)
    refine asg rfl ?_
    refine ⟨by kernel_rfl, ?_⟩
    refine nx (sl 4 rfl sn) (el 115 rfl en) ?_
    refine tri_ret ?_
    repeat (first | refine pn_thenr ?_ | refine pn_blkr ?_)
    exact ret1 hcx rfl (rv_tmp rfl) (.refl _) en
end Go.Proofs.YtekghdfbhbhigaaGreat.V
/- Contracts of the document: limbs, division. -/
set_option linter.unusedVariables false
set_option linter.unusedSimpArgs false
set_option maxRecDepth 100000
namespace Go.Proofs.YtekghdfbhbhigaaGreat.V
open Go.RowKit Mt Nml
theorem r01_small {M V k : Nat} (hV0 : 0 < V) (hV : V < 4294967296) (hk : k ≤ 8796093022208) : Fn Tryz.prog 189 [T.L M k, T.c (.int .u64 (V : Int))] [] [] [] (T.tup [T.l cU (dig (M / V)), T.c (.int .u64 ((M % V : Nat) : Int))]) := by
  refine fn_of Tryz.func189 rfl (by show 2 ≤ 40; decide) fun cx hcx => ?_
  refine tri_sub (sl 0 rfl (sl 1 rfl sn)) en ?_
  refine tri_ex 0 rfl fun us ⟨hx, hvx, hb⟩ => ?_
  refine tri_seq ?_
  refine tri_reg mixed hcx ?_ _ _
  refine asg rfl ?_
  refine asg rfl ?_
  refine ⟨by kernel_rfl, ?_⟩
  refine nx (sl 0 rfl (sl 1 rfl sn)) en ?_
  refine tri_seq ?_
  refine tri_reg mixed hcx ?_ _ _
  refine mv rfl ?_
  refine ln slLs rfl ?_
  refine mkz (c := cU) (n := us.length) 112 slLs rfl (by omega) (fun u => ⟨zvU32, zrU u⟩) (by decide) ?_
  refine asg rfl ?_
  refine ⟨by kernel_rfl, ?_⟩
  refine nx (sl 0 rfl (sl 1 rfl (sl 6 rfl sn))) (el 112 rfl en) ?_
  refine tri_seq ?_
  refine tri_reg mixed hcx ?_ _ _
  refine asg rfl ?_
  refine ⟨by kernel_rfl, ?_⟩
  refine nx (sl 0 rfl (sl 1 rfl (sl 6 rfl (sl 7 rfl sn)))) (el 112 rfl en) ?_
  refine tri_seq ?_
  refine tri_seq ?_
  refine tri_reg mixed hcx ?_ _ _
  refine mv rfl ?_
  refine ln slLs rfl ?_
  refine sb _ rfl rfl rfl ⟨rfl, by omega, by omega⟩ ?_
  refine asg rfl ?_
  refine ⟨by kernel_rfl, ?_⟩
  refine nx (sl 0 rfl (sl 1 rfl (sl 6 rfl (sl 7 rfl (sl 8 rfl sn))))) (el 112 rfl en) ?_
  refine tri_block ?_
  refine tri_loop (ι := Nat × Nat × List Int) (fun (k, R, qs) => [(0, T.l cU us), (1, T.c (.int .u64 (V : Int))), (6, T.o 112), (7, T.c (.int .u64 (R : Int))), (8, T.c (.int .i64 ((k : Int) - 1)))]) (fun (k, R, qs) => [(112, some (Ent.row cU 119 (qs)))]) (fun (k, R, qs) => k) (fun (k, R, qs) => (k ≤ us.length) ∧ (dvI us qs V k R)) (us.length, 0, List.replicate us.length 0) ⟨Nat.le_refl _, dvI_start us hV0⟩ (sl 0 rfl (sl 1 rfl (sl 6 rfl (sl 7 rfl (sl 8 rfl sn))))) (el 112 rfl en) ?_
  rintro ⟨k, R, qs⟩ ⟨hk, hI⟩
  refine tri_sub (sl 0 rfl (sl 1 rfl (sl 6 rfl (sl 7 rfl (sl 8 rfl sn))))) (el 112 rfl en) ?_
  refine tri_seq ?_
  refine tri_seq ?_
  rcases Nat.eq_zero_or_pos k with h0 | h0
  · subst h0
    refine tri_reg mixed hcx ?_ _ _
    refine mv rfl ?_
    refine cge rfl rfl (decide_eq_false (by omega)) ?_
    refine ⟨by kernel_rfl, ?_⟩
    refine nx (sl 0 rfl (sl 1 rfl (sl 6 rfl (sl 7 rfl (sl 8 rfl (sl 16 rfl sn)))))) (el 112 rfl en) ?_
    refine tri_false rfl rfl ?_
    refine tri_exit ?_
    repeat (first | refine pn_then ?_ | refine pn_oth (by decide) ?_)
    refine pn_ex ?_
    refine nx (sl 6 rfl (sl 7 rfl sn)) (el 112 rfl en) ?_
    refine tri_seq ?_
    have hE := dvI_end hI hvx; have hE1 := hE.1; have hE2 := hI.2.1; have hE3 : qs.length ≤ us.length := Nat.le_of_eq hI.1
    have hR := hE.2; subst hR; have hmod := Nat.mod_lt M hV0
    refine tri_fz 112 rfl ?_
    refine tri_rd 6 112 rfl rfl ?_
    refine tri_reg mixed hcx ?_ _ _
    refine mv rfl ?_
    refine ca rfl (h := r01_Norm (by omega)) (hn := ?_)
    refine mv rfl ?_
    refine asg rfl ?_
    refine asg rfl ?_
    refine ⟨by kernel_rfl, ?_⟩
    refine nx (sl 4 rfl (sl 5 rfl sn)) (el 112 rfl en) ?_
    refine tri_ret ?_
    repeat (first | refine pn_thenr ?_ | refine pn_blkr ?_)
    exact ret2 hcx rfl (rv_tmp rfl) (rv_tmp rfl) (.refl _) en
  · obtain ⟨m, rfl⟩ : ∃ m, k = m + 1 := ⟨k - 1, by omega⟩
    have bx := gd hx m; have hlz := hI.1; have hRV := hI.2.2.2.2; have hnl := nextR_lt hI hx; have hnv := nextR_val hx m R; rw [← getD_at] at hnv
    have hd : nextR us m R / V < 4294967296 := Nat.div_lt_of_lt_mul (by rw [Nat.mul_comm]; exact hnl)
    refine tri_reg mixed hcx ?_ _ _
    refine mv rfl ?_
    refine cge rfl rfl (decide_eq_true (by omega)) ?_
    refine ⟨by kernel_rfl, ?_⟩
    refine nx (sl 0 rfl (sl 1 rfl (sl 6 rfl (sl 7 rfl (sl 8 rfl (sl 16 rfl sn)))))) (el 112 rfl en) ?_
    refine tri_true rfl rfl ?_
    refine tri_skip ?_
    refine nx (sl 0 rfl (sl 1 rfl (sl 6 rfl (sl 7 rfl (sl 8 rfl sn))))) (el 112 rfl en) ?_
    refine tri_seq ?_
    refine tri_block ?_
    refine tri_seq ?_
    refine tri_reg mixed hcx ?_ _ _
    refine mv rfl ?_
    refine ml ((R : Int) * 4294967296) rfl rfl rfl (by omega) ?_
    refine mv rfl ?_
    refine mv rfl ?_
    refine ix rfl rfl slLs ⟨(by omega : _ = (m : Int)), by omega⟩ ?_
    refine lf rfl tyU32 ?_
    refine cvt _ rfl cvU32U64 rfl ⟨rfl, by omega, by omega⟩ ?_
    refine ad (((nextR us m R : Nat) : Int)) rfl rfl rfl (by omega) ?_
    refine asg rfl ?_
    refine ⟨by kernel_rfl, ?_⟩
    refine nx (sl 0 rfl (sl 1 rfl (sl 6 rfl (sl 7 rfl (sl 8 rfl sn))))) (el 112 rfl en) ?_
    refine tri_seq ?_
    refine tri_reg mixed hcx ?_ _ _
    refine mv rfl ?_
    refine mv rfl ?_
    refine mv rfl ?_
    refine mv rfl ?_
    refine qo ((nextR us m R / V : Nat) : Int) rfl rfl rfl ⟨(Int.natCast_ediv _ _).symm, by omega, by omega, by omega⟩ ?_
    refine cvm ((nextR us m R / V : Nat) : Int) rfl cvU64U32 (Int.emod_eq_of_lt (Int.natCast_nonneg _) (Int.ofNat_lt.2 hd)) ?_
    refine ixo rfl rfl rfl slLs ⟨(by omega : _ = (m : Int)), by omega⟩ ?_
    refine so rfl rfl rfl (.refl _) tyU32 ⟨rfl, by omega⟩ ?_
    refine ⟨by kernel_rfl, ?_⟩
    refine nx (sl 0 rfl (sl 1 rfl (sl 6 rfl (sl 7 rfl (sl 8 rfl sn))))) (el 112 rfl en) ?_
    refine tri_reg mixed hcx ?_ _ _
    refine mv rfl ?_
    refine mv rfl ?_
    refine re ((nextR us m R % V : Nat) : Int) rfl rfl ⟨(Int.natCast_emod _ _).symm, by omega, by omega⟩ ?_
    refine asg rfl ?_
    refine ⟨by kernel_rfl, ?_⟩
    refine pn_blk ?_
    refine nx (sl 0 rfl (sl 1 rfl (sl 6 rfl (sl 7 rfl (sl 8 rfl sn))))) (el 112 rfl en) ?_
    refine tri_reg mixed hcx ?_ _ _
    refine mv rfl ?_
    refine sb _ rfl rfl rfl ⟨rfl, by omega, by omega⟩ ?_
    refine asg rfl ?_
    refine ⟨by kernel_rfl, ?_⟩
    exact pn_back (m, nextR us m R % V, qs.set m ((nextR us m R / V : Nat) : Int)) (by first | omega | (dsimp only; omega)) ⟨by omega, dvI_put hI (by omega) hx hV0⟩ (sl 0 rfl (sl 1 rfl (sl 6 rfl (sl 7 rfl (sw 8 rfl (ci (by omega)) sn))))) (el 112 rfl en)

theorem r01_Bits {N k : Nat} (hk : k ≤ 17592186044416) : Fn Tryz.prog 153 [T.L N k] [] [] [] (T.c (.int .i64 ((nbits N : Nat) : Int))) := by
  refine fn_of Tryz.func153 rfl (by show 1 ≤ 31; decide) fun cx hcx => ?_
  refine tri_sub (sl 0 rfl sn) en ?_
  refine tri_ex 0 rfl fun xs ⟨hl, hv, hb⟩ => ?_
  refine tri_seq ?_
  refine tri_reg mixed hcx ?_ _ _
  refine asg rfl ?_
  refine ⟨by kernel_rfl, ?_⟩
  refine nx (sl 0 rfl sn) en ?_
  refine tri_seq ?_
  refine tri_seq ?_
  refine tri_reg mixed hcx ?_ _ _
  refine mv rfl ?_
  refine ln slLs rfl ?_
  refine sb _ rfl rfl rfl ⟨rfl, by omega, by omega⟩ ?_
  refine asg rfl ?_
  refine ⟨by kernel_rfl, ?_⟩
  refine nx (sl 0 rfl (sl 3 rfl sn)) en ?_
  refine tri_block ?_
  refine tri_loop (ι := Nat) (fun j => [(0, T.l cU xs), (3, T.c (.int .i64 ((j : Int) - 1)))]) (fun j => []) (fun j => j) (fun j => (j ≤ xs.length) ∧ (tl xs j = tl xs xs.length)) xs.length ⟨Nat.le_refl _, rfl⟩ (sl 0 rfl (sl 3 rfl sn)) en ?_
  rintro j ⟨hj, ht⟩
  refine tri_sub (sl 0 rfl (sl 3 rfl sn)) en ?_
  refine tri_seq ?_
  refine tri_seq ?_
  rcases Nat.eq_zero_or_pos j with h0 | h0
  · subst h0
    refine tri_reg mixed hcx ?_ _ _
    refine mv rfl ?_
    refine cge rfl rfl (decide_eq_false (by omega)) ?_
    refine ⟨by kernel_rfl, ?_⟩
    refine nx (sl 0 rfl (sl 3 rfl (sl 10 rfl sn))) en ?_
    refine tri_false rfl rfl ?_
    refine tri_exit ?_
    repeat (first | refine pn_then ?_ | refine pn_oth (by decide) ?_)
    refine pn_ex ?_
    refine nx sn en ?_
    refine tri_seq ?_
    refine tri_reg mixed hcx ?_ _ _
    refine asg rfl ?_
    refine ⟨by kernel_rfl, ?_⟩
    refine nx (sl 2 rfl sn) en ?_
    refine tri_ret ?_
    repeat (first | refine pn_thenr ?_ | refine pn_blkr ?_)
    exact ret1 hcx rfl (rv_tmp rfl) (ci (by rw [bits_zero hl ht hv]; rfl)) en
  · obtain ⟨m, rfl⟩ : ∃ m, j = m + 1 := ⟨j - 1, by omega⟩
    refine tri_as 3 (Z := T.c (.int .i64 (m : Int))) rfl (ci (by omega)) ?_
    have bx := gd hl m
    refine tri_reg mixed hcx ?_ _ _
    refine mv rfl ?_
    refine cge rfl rfl (decide_eq_true (by omega)) ?_
    refine ⟨by kernel_rfl, ?_⟩
    refine nx (sl 0 rfl (sl 3 rfl (sl 10 rfl sn))) en ?_
    refine tri_true rfl rfl ?_
    refine tri_skip ?_
    refine nx (sl 0 rfl (sl 3 rfl sn)) en ?_
    refine tri_seq ?_
    refine tri_block ?_
    refine tri_seq ?_
    refine tri_reg mixed hcx ?_ _ _
    refine mv rfl ?_
    refine mv rfl ?_
    refine ix rfl rfl slLs ⟨rfl, by omega⟩ ?_
    refine lf rfl tyU32 ?_
    refine cne rfl rfl rfl ?_
    refine ⟨by kernel_rfl, ?_⟩
    refine nx (sl 0 rfl (sl 3 rfl (sl 17 rfl sn))) en ?_
    refine tri_if rfl (fun hc => ?_) (fun hc => ?_)
    · have hbo := bits_of hl (by omega) ht hc hv; rw [← getD_at] at hbo
      have hn32 : nbits (xs.getD m cU.dflt).toNat ≤ 32 := nbits_le (by omega)
      refine tri_seq ?_
      refine tri_reg mixed hcx ?_ _ _
      refine mv rfl ?_
      refine ml (((32 * m : Nat) : Int)) rfl rfl rfl (by omega) ?_
      refine asg rfl ?_
      refine ⟨by kernel_rfl, ?_⟩
      refine nx (sl 0 rfl (sl 3 rfl (sl 4 rfl sn))) en ?_
      refine tri_seq ?_
      refine tri_seq ?_
      refine tri_reg mixed hcx ?_ _ _
      refine mv rfl ?_
      refine mv rfl ?_
      refine ix rfl rfl slLs ⟨rfl, by omega⟩ ?_
      refine lf rfl tyU32 ?_
      refine asg rfl ?_
      refine ⟨by kernel_rfl, ?_⟩
      refine nx (sl 4 rfl (sl 5 rfl sn)) en ?_
      refine tri_block ?_
      refine tri_loop (ι := Nat × Nat) (fun (w, q) => [(4, T.c (.int .i64 (q : Int))), (5, T.c (.int .u32 (w : Int)))]) (fun (w, q) => []) (fun (w, q) => w) (fun (w, q) => (w < 4294967296) ∧ (q + nbits w = nbits N)) ((xs.getD m cU.dflt).toNat, 32 * m) ⟨by omega, hbo.symm⟩ (sl 4 rfl (sw 5 rfl (ci (by omega)) sn)) en ?_
      rintro ⟨w, q⟩ ⟨hw, hq⟩
      refine tri_sub (sl 4 rfl (sl 5 rfl sn)) en ?_
      refine tri_seq ?_
      refine tri_seq ?_
      refine tri_reg mixed hcx ?_ _ _
      refine mv rfl ?_
      refine cgt rfl rfl rfl ?_
      refine ⟨by kernel_rfl, ?_⟩
      refine nx (sl 4 rfl (sl 5 rfl (sl 25 rfl sn))) en ?_
      refine tri_if rfl (fun hd => ?_) (fun hd => ?_)
      · have hqb : q ≤ nbits N := by omega
        have hN32 := nbits_len hl hv
        refine tri_skip ?_
        refine nx (sl 4 rfl (sl 5 rfl sn)) en ?_
        refine tri_seq ?_
        refine tri_block ?_
        refine tri_reg mixed hcx ?_ _ _
        refine mv rfl ?_
        refine ad (((q + 1 : Nat) : Int)) rfl rfl rfl (by omega) ?_
        refine asg rfl ?_
        refine ⟨by kernel_rfl, ?_⟩
        refine pn_blk ?_
        refine nx (sl 4 rfl (sl 5 rfl sn)) en ?_
        refine tri_reg mixed hcx ?_ _ _
        refine mv rfl ?_
        refine qo (((w / 2 : Nat) : Int)) rfl rfl rfl (by omega) ?_
        refine asg rfl ?_
        refine ⟨by kernel_rfl, ?_⟩
        exact pn_back (w / 2, q + 1) (by first | omega | (dsimp only; omega)) ⟨by omega, by rw [nbits_half (by omega)] at hq; omega⟩ (sl 4 rfl (sl 5 rfl sn)) en
      · refine tri_exit ?_
        repeat (first | refine pn_then ?_ | refine pn_oth (by decide) ?_)
        refine pn_ex ?_
        obtain rfl : w = 0 := by omega
        rw [show nbits 0 = 0 from rfl] at hq
        refine nx (sl 4 rfl sn) en ?_
        refine tri_seq ?_
        refine tri_reg mixed hcx ?_ _ _
        refine mv rfl ?_
        refine asg rfl ?_
        refine ⟨by kernel_rfl, ?_⟩
        refine nx (sl 2 rfl sn) en ?_
        refine tri_ret ?_
        repeat (first | refine pn_thenr ?_ | refine pn_blkr ?_)
        exact ret1 hcx rfl (rv_tmp rfl) (ci (by omega)) en
    · have hc' : at_ xs m = 0 := by rw [← getD_at]; omega
      refine tri_skip ?_
      refine pn_blk ?_
      refine nx (sl 0 rfl (sl 3 rfl sn)) en ?_
      refine tri_reg mixed hcx ?_ _ _
      refine mv rfl ?_
      refine sb _ rfl rfl rfl ⟨rfl, by omega, by omega⟩ ?_
      refine asg rfl ?_
      refine ⟨by kernel_rfl, ?_⟩
      exact pn_back m (by first | omega | (dsimp only; omega)) ⟨by omega, by rw [← ht]; simp [tl, hc']⟩ (sl 0 rfl (sl 3 rfl sn)) en

theorem r01_Two {n : Nat} (hn : n ≤ 281474976710656) : Fn Tryz.prog 190 [T.c (.int .i64 (n : Int))] [] [] [] (T.l cU (dig (2 ^ n))) := by
  refine fn_of Tryz.func190 rfl (by show 1 ≤ 21; decide) fun cx hcx => ?_
  refine tri_sub (sl 0 rfl sn) en ?_
  have hr : n % 32 < 32 := by omega
  have l6 := pow2_le hr; have l7 := pow2_pos (n % 32)
  refine tri_seq ?_
  refine tri_reg mixed hcx ?_ _ _
  refine asg rfl ?_
  refine ⟨by kernel_rfl, ?_⟩
  refine nx (sl 0 rfl sn) en ?_
  refine tri_seq ?_
  refine tri_reg mixed hcx ?_ _ _
  refine asg rfl ?_
  refine ⟨by kernel_rfl, ?_⟩
  refine nx (sl 0 rfl (sl 3 rfl sn)) en ?_
  refine tri_seq ?_
  refine tri_seq ?_
  refine tri_nil 3 9 119 cU rfl (by rw [hcx]; kernel_rfl) ?_
  refine tri_reg mixed hcx ?_ _ _
  refine asg rfl ?_
  refine ⟨by kernel_rfl, ?_⟩
  refine nx (sl 0 rfl (sl 3 rfl (sl 4 rfl sn))) (el 9 rfl en) ?_
  refine tri_block ?_
  refine tri_loop (ι := Nat) (fun j => [(0, T.c (.int .i64 (n : Int))), (3, T.o 9), (4, T.c (.int .i64 (j : Int)))]) (fun j => [(9, some (Ent.row cU 119 (List.replicate j 0)))]) (fun j => n / 32 - j) (fun j => (j ≤ n / 32)) 0 (Nat.zero_le _) (sl 0 rfl (sl 3 rfl (sl 4 rfl sn))) (el 9 rfl en) ?_
  rintro j hj
  refine tri_sub (sl 0 rfl (sl 3 rfl (sl 4 rfl sn))) (el 9 rfl en) ?_
  refine tri_seq ?_
  refine tri_seq ?_
  refine tri_reg mixed hcx ?_ _ _
  refine mv rfl ?_
  refine mv rfl ?_
  refine qo (((n / 32 : Nat) : Int)) rfl rfl rfl (by omega) ?_
  refine clt rfl rfl rfl ?_
  refine ⟨by kernel_rfl, ?_⟩
  refine nx (sl 0 rfl (sl 3 rfl (sl 4 rfl (sl 8 rfl sn)))) (el 9 rfl en) ?_
  refine tri_if rfl (fun hc => ?_) (fun hc => ?_)
  · refine tri_skip ?_
    refine nx (sl 0 rfl (sl 3 rfl (sl 4 rfl sn))) (el 9 rfl en) ?_
    refine tri_seq ?_
    refine tri_block ?_
    refine tri_reg mixed hcx ?_ _ _
    refine mv rfl ?_
    refine bl1 rfl slLs zvU32 ?_
    refine ap 512 rfl rfl rfl slLs (by simp only [List.length_replicate, List.length_cons, List.length_nil]; omega) (by decide) ?_
    refine asg rfl ?_
    refine ⟨by kernel_rfl, ?_⟩
    refine pn_blk ?_
    refine nx (sl 0 rfl (sl 3 rfl (sl 4 rfl sn))) (el 512 rfl en) ?_
    refine tri_reg mixed hcx ?_ _ _
    refine mv rfl ?_
    refine ad (((j + 1 : Nat) : Int)) rfl rfl rfl (by omega) ?_
    refine asg rfl ?_
    refine ⟨by kernel_rfl, ?_⟩
    refine pn_sub (sl 0 rfl (sl 3 rfl (sl 4 rfl sn))) (el 512 rfl en) ?_
    refine pn_ren 3 9 512 rfl rfl (by rw [hcx]; kernel_rfl) ?_
    exact pn_back (j + 1) (by first | omega | (dsimp only; omega)) (by omega) (sl 0 rfl (sl 3 rfl (sl 4 rfl sn))) (ew 9 rfl (.of (by rw [List.replicate_succ'])) en)
  · refine tri_exit ?_
    repeat (first | refine pn_then ?_ | refine pn_oth (by decide) ?_)
    refine pn_ex ?_
    obtain rfl : j = n / 32 := by omega
    refine nx (sl 0 rfl (sl 3 rfl sn)) (el 9 rfl en) ?_
    refine tri_seq ?_
    refine tri_reg mixed hcx ?_ _ _
    refine mv rfl ?_
    refine mv rfl ?_
    refine re (((n % 32 : Nat) : Int)) rfl rfl (by omega) ?_
    refine cvt _ rfl cvIU rfl ⟨rfl, by omega, by omega⟩ ?_
    refine shL (s := n % 32) ((2 : Int) ^ (n % 32)) rfl rfl rfl rfl ⟨Int.one_mul _, by omega, by omega, (by show n % 32 ≤ 32; omega)⟩ ?_
    refine bl1 rfl slLs zvU32 ?_
    refine ap 616 rfl rfl rfl slLs (by simp only [List.length_replicate, List.length_cons, List.length_nil]; omega) (by decide) ?_
    refine asg rfl ?_
    refine ⟨by kernel_rfl, ?_⟩
    refine nx (sl 2 rfl sn) (el 616 rfl en) ?_
    refine tri_fz 616 rfl ?_
    refine tri_rd 2 616 rfl rfl ?_
    refine tri_ret ?_
    repeat (first | refine pn_thenr ?_ | refine pn_blkr ?_)
    exact ret1 hcx rfl (rv_tmp rfl) (.of (by rw [two_dig])) en

theorem r01_Shr {M n k : Nat} (hk : k ≤ 8796093022208) (hn : n ≤ 281474976710656) : Fn Tryz.prog 191 [T.L M k, T.c (.int .i64 (n : Int))] [] [] [] (T.tup [T.l cU (dig (M / 2 ^ n)), T.c (.int .i64 0)]) := by
  refine fn_of Tryz.func191 rfl (by show 2 ≤ 44; decide) fun cx hcx => ?_
  refine tri_sub (sl 0 rfl (sl 1 rfl sn)) en ?_
  refine tri_ex 0 rfl fun xs ⟨hl, hv, hb⟩ => ?_
  have hnb := nbits_len hl hv; have hpp := pow2_pos (n % 32)
  refine tri_seq ?_
  refine tri_reg mixed hcx ?_ _ _
  refine asg rfl ?_
  refine asg rfl ?_
  refine ⟨by kernel_rfl, ?_⟩
  refine nx (sl 0 rfl (sl 1 rfl sn)) en ?_
  refine tri_seq ?_
  refine tri_seq ?_
  refine tri_reg mixed hcx ?_ _ _
  refine mv rfl ?_
  refine clt rfl rfl (decide_eq_false (by omega)) ?_
  refine ⟨by kernel_rfl, ?_⟩
  refine nx (sl 0 rfl (sl 1 rfl (sl 10 rfl sn))) en ?_
  refine tri_false rfl rfl ?_
  refine tri_skip ?_
  refine nx (sl 0 rfl (sl 1 rfl sn)) en ?_
  refine tri_seq ?_
  refine tri_seq ?_
  refine tri_reg mixed hcx ?_ _ _
  refine mv rfl ?_
  refine mv rfl ?_
  refine ca rfl (h := r01_Bits (by omega)) (hn := ?_)
  refine cge rfl rfl rfl ?_
  refine ⟨by kernel_rfl, ?_⟩
  refine nx (sl 0 rfl (sl 1 rfl (sl 14 rfl sn))) en ?_
  refine tri_if rfl (fun hc => ?_) (fun hc => ?_)
  · refine tri_seq ?_
    refine tri_reg mixed hcx ?_ _ _
    refine asg rfl ?_
    refine asg rfl ?_
    refine ⟨by kernel_rfl, ?_⟩
    refine nx (sl 4 rfl (sl 5 rfl sn)) en ?_
    refine tri_ret ?_
    repeat (first | refine pn_thenr ?_ | refine pn_blkr ?_)
    exact ret2 hcx rfl (rv_tmp rfl) (rv_tmp rfl) (tup_le ⟨nil_dig (div_zero_of (by omega)), .refl _, trivial⟩) en
  · refine tri_skip ?_
    refine nx (sl 0 rfl (sl 1 rfl sn)) en ?_
    refine tri_seq ?_
    refine tri_reg mixed hcx ?_ _ _
    refine asg rfl ?_
    refine ⟨by kernel_rfl, ?_⟩
    refine nx (sl 0 rfl (sl 1 rfl (sl 6 rfl sn))) en ?_
    refine tri_seq ?_
    refine tri_seq ?_
    refine tri_nil 6 9 119 cU rfl (by rw [hcx]; kernel_rfl) ?_
    refine tri_reg mixed hcx ?_ _ _
    refine mv rfl ?_
    refine qo (((n / 32 : Nat) : Int)) rfl rfl rfl (by omega) ?_
    refine asg rfl ?_
    refine ⟨by kernel_rfl, ?_⟩
    refine nx (sl 0 rfl (sl 1 rfl (sl 6 rfl (sl 7 rfl sn)))) (el 9 rfl en) ?_
    refine tri_block ?_
    refine tri_loop (ι := Nat × List Int) (fun (j, zs) => [(0, T.l cU xs), (1, T.c (.int .i64 (n : Int))), (6, T.o 9), (7, T.c (.int .i64 ((j + n / 32 : Nat) : Int)))]) (fun (j, zs) => [(9, some (Ent.row cU 119 (zs)))]) (fun (j, zs) => xs.length - j) (fun (j, zs) => (j + n / 32 ≤ xs.length) ∧ (zs.length = j) ∧ (Lim zs) ∧ (val zs = val (xs.drop (n / 32)) / 2 ^ (n % 32) % B j)) (0, []) ⟨by omega, rfl, Lim.nil, by rw [B_zero, Int.emod_one]; rfl⟩ (sl 0 rfl (sl 1 rfl (sl 6 rfl (sw 7 rfl (ci (by omega)) sn)))) (el 9 rfl en) ?_
    rintro ⟨j, zs⟩ ⟨hj, ho, hzl, hzv⟩
    refine tri_sub (sl 0 rfl (sl 1 rfl (sl 6 rfl (sl 7 rfl sn)))) (el 9 rfl en) ?_
    refine tri_seq ?_
    refine tri_seq ?_
    refine tri_reg mixed hcx ?_ _ _
    refine mv rfl ?_
    refine mv rfl ?_
    refine ln slLs rfl ?_
    refine clt rfl rfl rfl ?_
    refine ⟨by kernel_rfl, ?_⟩
    refine nx (sl 0 rfl (sl 1 rfl (sl 6 rfl (sl 7 rfl (sl 20 rfl sn))))) (el 9 rfl en) ?_
    refine tri_if rfl (fun hd => ?_) (fun hd => ?_)
    · have bx := gd hl (j + n / 32); have bY := gd hl (j + n / 32 + 1)
      have hq : 0 ≤ (xs.getD (j + n / 32) cU.dflt + xs.getD (j + n / 32 + 1) cU.dflt * 4294967296) / 2 ^ (n % 32) := Int.ediv_nonneg (by omega) (Int.le_of_lt hpp)
      have hS := shr_m1 xs zs hl (n / 32) (n % 32) j (xs.getD (j + n / 32) cU.dflt + xs.getD (j + n / 32 + 1) cU.dflt * 4294967296) (by omega) (by omega) ho hzl rfl hzv
      refine tri_skip ?_
      refine nx (sl 0 rfl (sl 1 rfl (sl 6 rfl (sl 7 rfl sn)))) (el 9 rfl en) ?_
      refine tri_seq ?_
      refine tri_block ?_
      refine tri_seq ?_
      refine tri_reg mixed hcx ?_ _ _
      refine mv rfl ?_
      refine mv rfl ?_
      refine ca rfl (h := r01_limb (by first | exact dig_lim _ | assumption)) (hn := ?_)
      refine mv rfl ?_
      refine mv rfl ?_
      refine ad (((j + n / 32 + 1 : Nat) : Int)) rfl rfl rfl (by omega) ?_
      refine ca rfl (h := r01_limb (by first | exact dig_lim _ | assumption)) (hn := ?_)
      refine ml (xs.getD (j + n / 32 + 1) cU.dflt * 4294967296) rfl rfl rfl (by omega) ?_
      refine ad _ rfl rfl rfl ⟨rfl, by omega, by omega⟩ ?_
      refine asg rfl ?_
      refine ⟨by kernel_rfl, ?_⟩
      refine nx (sl 0 rfl (sl 1 rfl (sl 6 rfl (sl 7 rfl (sl 8 rfl sn))))) (el 9 rfl en) ?_
      refine tri_reg mixed hcx ?_ _ _
      refine mv rfl ?_
      refine mv rfl ?_
      refine mv rfl ?_
      refine re (((n % 32 : Nat) : Int)) rfl rfl (by omega) ?_
      refine cvt _ rfl cvIU rfl ⟨rfl, by omega, by omega⟩ ?_
      refine shR (s := n % 32) ((xs.getD (j + n / 32) cU.dflt + xs.getD (j + n / 32 + 1) cU.dflt * 4294967296) / 2 ^ (n % 32)) rfl rfl rfl ⟨rfl, by omega, (by show n % 32 ≤ 64; omega)⟩ ?_
      refine re _ rfl rfl ⟨rfl, by omega, by omega⟩ ?_
      refine cvm ((xs.getD (j + n / 32) cU.dflt + xs.getD (j + n / 32 + 1) cU.dflt * 4294967296) / 2 ^ (n % 32) % 4294967296) rfl cvU64U32 (by omega) ?_
      refine bl1 rfl slLs zvU32 ?_
      refine ap 1019 rfl rfl rfl slLs (by simp only [List.length_cons, List.length_nil]; omega) (by decide) ?_
      refine asg rfl ?_
      refine ⟨by kernel_rfl, ?_⟩
      refine pn_blk ?_
      refine nx (sl 0 rfl (sl 1 rfl (sl 6 rfl (sl 7 rfl sn)))) (el 1019 rfl en) ?_
      refine tri_reg mixed hcx ?_ _ _
      refine mv rfl ?_
      refine ad (((j + n / 32 + 1 : Nat) : Int)) rfl rfl rfl (by omega) ?_
      refine asg rfl ?_
      refine ⟨by kernel_rfl, ?_⟩
      refine pn_sub (sl 0 rfl (sl 1 rfl (sl 6 rfl (sl 7 rfl sn)))) (el 1019 rfl en) ?_
      refine pn_ren 6 9 1019 rfl rfl (by rw [hcx]; kernel_rfl) ?_
      exact pn_back (j + 1, zs ++ [(xs.getD (j + n / 32) cU.dflt + xs.getD (j + n / 32 + 1) cU.dflt * 4294967296) / 2 ^ (n % 32) % 4294967296]) (by first | omega | (dsimp only; omega)) ⟨by omega, by rw [List.length_append, ho]; rfl, hS.1, hS.2⟩ (sl 0 rfl (sl 1 rfl (sl 6 rfl (sw 7 rfl (ci (by omega)) sn)))) (el 9 rfl en)
    · refine tri_exit ?_
      repeat (first | refine pn_then ?_ | refine pn_oth (by decide) ?_)
      refine pn_ex ?_
      have hE1 : val zs = ((M / 2 ^ n : Nat) : Int) := by rw [shr_end hl hzl ho (by omega) hzv, hv]; simp
      have hE3 : zs.length ≤ j := Nat.le_of_eq ho
      refine nx (sl 6 rfl sn) (el 9 rfl en) ?_
      refine tri_seq ?_
      refine tri_fz 9 rfl ?_
      refine tri_rd 6 9 rfl rfl ?_
      refine tri_reg mixed hcx ?_ _ _
      refine mv rfl ?_
      refine ca rfl (h := r01_Norm (by omega)) (hn := ?_)
      refine asg rfl ?_
      refine asg rfl ?_
      refine ⟨by kernel_rfl, ?_⟩
      refine nx (sl 4 rfl (sl 5 rfl sn)) (el 9 rfl en) ?_
      refine tri_ret ?_
      repeat (first | refine pn_thenr ?_ | refine pn_blkr ?_)
      exact ret2 hcx rfl (rv_tmp rfl) (rv_tmp rfl) (.refl _) en

theorem r01_Div {M N k l : Nat} (hN0 : 0 < N) (hk : k ≤ 1099511627776) (hl : l ≤ 1099511627776) (hlim : lim N ≤ l) : Fn Tryz.prog 168 [T.L M k, T.L N l] [] [] [] (T.tup [T.l cU (dig (M / N)), T.l cU (dig (M % N)), T.c (.int .i64 0)]) := by
  refine fn_of Tryz.func168 rfl (by show 2 ≤ 132; decide) fun cx hcx => ?_
  refine tri_sub (sl 0 rfl (sl 1 rfl sn)) en ?_
  have hp := lim_ps hN0; unfold lim at hp
  refine tri_ex 0 rfl fun us0 ⟨hl0, hv0, hb0⟩ => ?_
  have hLM := lim_val hl0 hv0 hb0
  refine tri_as 0 (Z := T.L M k) rfl (l_L hl0 hv0 hb0) ?_
  refine tri_seq ?_
  refine tri_reg mixed hcx ?_ _ _
  refine asg rfl ?_
  refine asg rfl ?_
  refine asg rfl ?_
  refine ⟨by kernel_rfl, ?_⟩
  refine nx (sl 0 rfl (sl 1 rfl sn)) en ?_
  refine tri_seq ?_
  refine tri_reg mixed hcx ?_ _ _
  refine mv rfl ?_
  refine ca rfl (h := r01_Norm (by omega)) (hn := ?_)
  refine asg rfl ?_
  refine ⟨by kernel_rfl, ?_⟩
  refine nx (sl 0 rfl (sl 7 rfl sn)) en ?_
  refine tri_seq ?_
  refine tri_seq ?_
  have hLN : lim N ≤ l := hlim
  refine tri_reg mixed hcx ?_ _ _
  refine mv rfl ?_
  refine ln slLs rfl ?_
  refine ceq rfl rfl (decide_eq_false (by omega)) ?_
  refine ⟨by kernel_rfl, ?_⟩
  refine nx (sl 0 rfl (sl 7 rfl (sl 24 rfl sn))) en ?_
  refine tri_false rfl rfl ?_
  refine tri_skip ?_
  refine nx (sl 0 rfl (sl 7 rfl sn)) en ?_
  refine tri_seq ?_
  refine tri_seq ?_
  refine tri_reg mixed hcx ?_ _ _
  refine mv rfl ?_
  refine ln slLs rfl ?_
  refine ceq rfl rfl rfl ?_
  refine ⟨by kernel_rfl, ?_⟩
  refine nx (sl 0 rfl (sl 7 rfl (sl 27 rfl sn))) en ?_
  refine tri_if rfl (fun hd => ?_) (fun hd => ?_)
  · have h1N := at_one (N := N) (by unfold lim; omega); rw [← getD_at] at h1N
    have h01 : (T.c (.int .u64 ((dig N).getD 0 cU.dflt))).le (T.c (.int .u64 (N : Int))) := ci h1N
    have bN := gd (dig_lim N) 0; have hmod := Nat.mod_lt M hN0
    have hL1 : Lim [((M % N : Nat) : Int)] := Lim.one (by omega) (by omega)
    have hL2 : val [((M % N : Nat) : Int)] = ((M % N : Nat) : Int) := val_one _
    have hL3 : [((M % N : Nat) : Int)].length ≤ 1 := Nat.le_refl _
    refine tri_seq ?_
    refine tri_reg mixed hcx ?_ _ _
    refine mv rfl ?_
    refine mv rfl ?_
    refine ix rfl rfl slLs ⟨(rfl : _ = ((0 : Nat) : Int)), by omega⟩ ?_
    refine lf rfl tyU32 ?_
    refine cvt _ rfl cvU32U64 rfl ⟨rfl, by omega, by omega⟩ ?_
    refine ca rfl (h := r01_small (by omega) (by omega) (by omega)) (hn := ?_)
    refine mv rfl ?_
    refine ex rfl rfl ?_
    refine ex rfl rfl ?_
    refine asg rfl ?_
    refine asg rfl ?_
    refine ⟨by kernel_rfl, ?_⟩
    refine nx (sl 8 rfl (sl 9 rfl sn)) en ?_
    refine tri_seq ?_
    refine tri_reg mixed hcx ?_ _ _
    refine mv rfl ?_
    refine mv rfl ?_
    refine cvm (((M % N : Nat) : Int)) rfl cvU64U32 (by omega) ?_
    refine bl1 rfl slLs zvU32 ?_
    refine ca rfl (h := r01_Norm (by omega)) (hn := ?_)
    refine asg rfl ?_
    refine asg rfl ?_
    refine asg rfl ?_
    refine ⟨by kernel_rfl, ?_⟩
    refine nx (sl 4 rfl (sl 5 rfl (sl 6 rfl sn))) en ?_
    refine tri_ret ?_
    repeat (first | refine pn_thenr ?_ | refine pn_blkr ?_)
    exact ret3 hcx rfl (rv_tmp rfl) (rv_tmp rfl) (rv_tmp rfl) (.refl _) en
  · refine tri_skip ?_
    refine nx (sl 0 rfl (sl 7 rfl sn)) en ?_
    refine tri_seq ?_
    have hnb := nbits_len (dig_lim N) (dig_val N); obtain ⟨s, hs⟩ : ∃ s, s = 32 * lim N - nbits N := ⟨_, rfl⟩
    have hsl : (dig N).length = lim N := rfl
    have h2s := two_limb s; have hlU : lim (M * 2 ^ s) ≤ k + (s / 32 + 1) := Nat.le_trans (lim_mul _ _) (Nat.add_le_add hLM h2s)
    obtain ⟨hTl, hT⟩ := top_set hN0 hs; have hV0 : 0 < N * 2 ^ s := Nat.mul_pos hN0 (Nat.pow_pos (by omega)); have hDS := div_shift M N s hN0
    obtain ⟨t, ht⟩ : ∃ t, lim N = t + 1 := ⟨lim N - 1, by omega⟩
    rw [show lim N - 1 = t by omega] at hT
    have hVl : (dig (N * 2 ^ s)).length = t + 1 := by show lim _ = _; omega
    have hUl : (dig (M * 2 ^ s)).length ≤ k + (s / 32 + 1) := hlU
    refine tri_reg mixed hcx ?_ _ _
    refine mv rfl ?_
    refine ln slLs rfl ?_
    refine ml (((32 * lim N : Nat) : Int)) rfl rfl rfl (by omega) ?_
    refine mv rfl ?_
    refine ca rfl (h := r01_Bits (by omega)) (hn := ?_)
    refine sb ((s : Int)) rfl rfl rfl (by omega) ?_
    refine ca rfl (h := r01_Two (by omega)) (hn := ?_)
    refine asg rfl ?_
    refine ⟨by kernel_rfl, ?_⟩
    refine nx (sl 0 rfl (sl 7 rfl (sl 10 rfl sn))) en ?_
    refine tri_seq ?_
    refine tri_reg mixed hcx ?_ _ _
    refine mv rfl ?_
    refine mv rfl ?_
    refine ca rfl (h := r01_Mul (by omega) (by omega)) (hn := ?_)
    refine asg rfl ?_
    refine ⟨by kernel_rfl, ?_⟩
    refine nx (sl 7 rfl (sl 10 rfl (sl 11 rfl sn))) en ?_
    refine tri_seq ?_
    refine tri_reg mixed hcx ?_ _ _
    refine mv rfl ?_
    refine mv rfl ?_
    refine ca rfl (h := r01_Mul (by omega) (by omega)) (hn := ?_)
    refine asg rfl ?_
    refine ⟨by kernel_rfl, ?_⟩
    refine nx (sl 7 rfl (sl 11 rfl (sl 12 rfl sn))) en ?_
    refine tri_seq ?_
    refine tri_reg mixed hcx ?_ _ _
    refine mv rfl ?_
    refine ln slLs rfl ?_
    refine mkz (c := cU) (n := (dig (M * 2 ^ s)).length) 1012 slLs rfl (by omega) (fun u => ⟨zvU32, zrU u⟩) (by decide) ?_
    refine asg rfl ?_
    refine ⟨by kernel_rfl, ?_⟩
    refine nx (sl 7 rfl (sl 11 rfl (sl 12 rfl (sl 13 rfl sn)))) (el 1012 rfl en) ?_
    refine tri_seq ?_
    refine tri_reg mixed hcx ?_ _ _
    refine asg rfl ?_
    refine ⟨by kernel_rfl, ?_⟩
    refine nx (sl 7 rfl (sl 11 rfl (sl 12 rfl (sl 13 rfl (sl 14 rfl sn))))) (el 1012 rfl en) ?_
    refine tri_seq ?_
    refine tri_seq ?_
    refine tri_reg mixed hcx ?_ _ _
    refine mv rfl ?_
    refine ln slLs rfl ?_
    refine sb _ rfl rfl rfl ⟨rfl, by omega, by omega⟩ ?_
    refine asg rfl ?_
    refine ⟨by kernel_rfl, ?_⟩
    refine nx (sl 7 rfl (sl 11 rfl (sl 12 rfl (sl 13 rfl (sl 14 rfl (sl 15 rfl sn)))))) (el 1012 rfl en) ?_
    refine tri_block ?_
    refine tri_loop (ι := Nat × Nat × List Int) (fun (j, R, qs) => [(7, T.l cU (dig N)), (11, T.l cU (dig (M * 2 ^ s))), (12, T.l cU (dig (N * 2 ^ s))), (13, T.o 1012), (14, T.l cU (dig R)), (15, T.c (.int .i64 ((j : Int) - 1)))]) (fun (j, R, qs) => [(1012, some (Ent.row cU 119 (qs)))]) (fun (j, R, qs) => j) (fun (j, R, qs) => (j ≤ (dig (M * 2 ^ s)).length) ∧ (dvI (dig (M * 2 ^ s)) qs (N * 2 ^ s) j R)) ((dig (M * 2 ^ s)).length, 0, List.replicate (dig (M * 2 ^ s)).length 0) ⟨Nat.le_refl _, dvI_start _ hV0⟩ (sl 7 rfl (sl 11 rfl (sl 12 rfl (sl 13 rfl (sw 14 rfl (nil_dig rfl) (sl 15 rfl sn)))))) (el 1012 rfl en) ?_
    rintro ⟨j, R, qs⟩ ⟨hj, hI⟩
    refine tri_sub (sl 7 rfl (sl 11 rfl (sl 12 rfl (sl 13 rfl (sl 14 rfl (sl 15 rfl sn)))))) (el 1012 rfl en) ?_
    refine tri_seq ?_
    refine tri_seq ?_
    rcases Nat.eq_zero_or_pos j with h0 | h0
    · subst h0
      refine tri_reg mixed hcx ?_ _ _
      refine mv rfl ?_
      refine cge rfl rfl (decide_eq_false (by omega)) ?_
      refine ⟨by kernel_rfl, ?_⟩
      refine nx (sl 7 rfl (sl 11 rfl (sl 12 rfl (sl 13 rfl (sl 14 rfl (sl 15 rfl (sl 62 rfl sn))))))) (el 1012 rfl en) ?_
      refine tri_false rfl rfl ?_
      refine tri_exit ?_
      repeat (first | refine pn_then ?_ | refine pn_oth (by decide) ?_)
      refine pn_ex ?_
      refine nx (sl 7 rfl (sl 13 rfl (sl 14 rfl sn))) (el 1012 rfl en) ?_
      refine tri_seq ?_
      have hE := dvI_end hI (dig_val _); rw [hDS.1] at hE; have hE1 := hE.1; have hE2 := hI.2.1; have hE3 : qs.length ≤ (dig (M * 2 ^ s)).length := Nat.le_of_eq hI.1
      have hRV := hI.2.2.2.2; have hlR : lim R ≤ t + 1 := Nat.le_trans (lim_mono (Nat.le_of_lt hRV)) (Nat.le_of_eq hVl)
      refine tri_reg mixed hcx ?_ _ _
      refine mv rfl ?_
      refine mv rfl ?_
      refine ln slLs rfl ?_
      refine ml (((32 * lim N : Nat) : Int)) rfl rfl rfl (by omega) ?_
      refine mv rfl ?_
      refine ca rfl (h := r01_Bits (by omega)) (hn := ?_)
      refine sb ((s : Int)) rfl rfl rfl (by omega) ?_
      refine ca rfl (h := r01_Shr (by omega) (by omega)) (hn := ?_)
      refine mv rfl ?_
      refine ex rfl rfl ?_
      refine ex rfl rfl ?_
      refine asg rfl ?_
      refine asg rfl ?_
      refine ⟨by kernel_rfl, ?_⟩
      refine nx (sl 13 rfl (sl 18 rfl sn)) (el 1012 rfl en) ?_
      refine tri_seq ?_
      refine tri_fz 1012 rfl ?_
      refine tri_rd 13 1012 rfl rfl ?_
      refine tri_reg mixed hcx ?_ _ _
      refine mv rfl ?_
      refine ca rfl (h := r01_Norm (by omega)) (hn := ?_)
      refine mv rfl ?_
      refine asg rfl ?_
      refine asg rfl ?_
      refine asg rfl ?_
      refine ⟨by kernel_rfl, ?_⟩
      refine nx (sl 4 rfl (sl 5 rfl (sl 6 rfl sn))) (el 1012 rfl en) ?_
      refine tri_ret ?_
      repeat (first | refine pn_thenr ?_ | refine pn_blkr ?_)
      exact ret3 hcx rfl (rv_tmp rfl) (rv_tmp rfl) (rv_tmp rfl) (tup_le ⟨.refl _, .of (by rw [hE.2, hDS.2]), .refl _, trivial⟩) en
    · obtain ⟨m, rfl⟩ : ∃ m, j = m + 1 := ⟨j - 1, by omega⟩
      refine tri_as 15 (Z := T.c (.int .i64 (m : Int))) rfl (ci (by omega)) ?_
      have hRV := hI.2.2.2.2; have hlR : lim R ≤ t + 1 := Nat.le_trans (lim_mono (Nat.le_of_lt hRV)) (Nat.le_of_eq hVl); have hlR2 : (dig R).length ≤ t + 1 := hlR
      have bx := gd (dig_lim (M * 2 ^ s)) m; have hnx := nextR_lt hI (dig_lim _); have hql := hI.1; have hlx : lim (nextR (dig (M * 2 ^ s)) m R) ≤ t + 2 := lim_next hnx (Nat.le_of_eq hVl)
      have hL1 : Lim ([(dig (M * 2 ^ s)).getD m cU.dflt] ++ dig R) := nextR_lim (dig_lim _) m R
      have hL2 : val ([(dig (M * 2 ^ s)).getD m cU.dflt] ++ dig R) = (((nextR (dig (M * 2 ^ s)) m R) : Nat) : Int) := nextR_is (dig_lim _) m R
      have hL3 : ([(dig (M * 2 ^ s)).getD m cU.dflt] ++ dig R).length ≤ t + 2 := by rw [List.length_append, List.length_singleton]; omega
      refine tri_reg mixed hcx ?_ _ _
      refine mv rfl ?_
      refine cge rfl rfl (decide_eq_true (by omega)) ?_
      refine ⟨by kernel_rfl, ?_⟩
      refine nx (sl 7 rfl (sl 11 rfl (sl 12 rfl (sl 13 rfl (sl 14 rfl (sl 15 rfl (sl 62 rfl sn))))))) (el 1012 rfl en) ?_
      refine tri_true rfl rfl ?_
      refine tri_skip ?_
      refine nx (sl 7 rfl (sl 11 rfl (sl 12 rfl (sl 13 rfl (sl 14 rfl (sl 15 rfl sn)))))) (el 1012 rfl en) ?_
      refine tri_seq ?_
      refine tri_block ?_
      refine tri_seq ?_
      refine tri_reg mixed hcx ?_ _ _
      refine mv rfl ?_
      refine mv rfl ?_
      refine ix rfl rfl slLs ⟨rfl, by omega⟩ ?_
      refine lf rfl tyU32 ?_
      refine bo1 1514 rfl slLs zvU32 ?_
      refine mv rfl ?_
      refine apf rfl rfl rfl slLs (by simp only [List.length_cons, List.length_nil]; omega) (by decide) ?_
      refine ca rfl (h := r01_Norm (by omega)) (hn := ?_)
      refine asg rfl ?_
      refine ⟨by kernel_rfl, ?_⟩
      refine nx (sl 7 rfl (sl 11 rfl (sl 12 rfl (sl 13 rfl (sl 14 rfl (sl 15 rfl sn)))))) (el 1012 rfl en) ?_
      refine tri_seq ?_
      refine tri_seq ?_
      refine tri_reg mixed hcx ?_ _ _
      refine mv rfl ?_
      refine mv rfl ?_
      refine ca rfl (h := r01_Cmp (by omega) (by omega)) (hn := ?_)
      refine clt rfl rfl rfl ?_
      refine ⟨by kernel_rfl, ?_⟩
      refine nx (sl 7 rfl (sl 11 rfl (sl 12 rfl (sl 13 rfl (sl 14 rfl (sl 15 rfl (sl 76 rfl sn))))))) (el 1012 rfl en) ?_
      refine tri_if rfl (fun hc => ?_) (fun hc => ?_)
      · refine tri_exit ?_
        repeat (first | refine pn_then ?_ | refine pn_oth (by decide) ?_)
        refine pn_ex ?_
        refine nx (sl 7 rfl (sl 11 rfl (sl 12 rfl (sl 13 rfl (sl 14 rfl (sl 15 rfl sn)))))) (el 1012 rfl en) ?_
        refine tri_reg mixed hcx ?_ _ _
        refine mv rfl ?_
        refine sb (((m : Int) - 1)) rfl rfl rfl (by omega) ?_
        refine asg rfl ?_
        refine ⟨by kernel_rfl, ?_⟩
        exact pn_back (m, (nextR (dig (M * 2 ^ s)) m R), qs) (by first | omega | (dsimp only; omega)) ⟨by omega, dvI_skip hI (by omega) (dig_lim _) (sgnc_neg hc)⟩ (sl 7 rfl (sl 11 rfl (sl 12 rfl (sl 13 rfl (sl 14 rfl (sl 15 rfl sn)))))) (el 1012 rfl en)
      · have hge := sgnc_nlt hc
        obtain ⟨c, hcb, hcg⟩ := guess_nat (m := t) hVl hT hnx; obtain ⟨Q, hQ⟩ : ∃ Q, Q = (nextR (dig (M * 2 ^ s)) m R) / (N * 2 ^ s) := ⟨_, rfl⟩; rw [← hQ, ← getD_at, ← getD_at, ← getD_at, ← hVl] at hcg; rw [← hQ] at hcb
        have g1 := gd (dig_lim (nextR (dig (M * 2 ^ s)) m R)) (dig (N * 2 ^ s)).length; have g2 := gd (dig_lim (nextR (dig (M * 2 ^ s)) m R)) t; have g3 := gd (dig_lim (N * 2 ^ s)) t; rw [← getD_at] at hT; have hQR : (N * 2 ^ s) * Q ≤ (nextR (dig (M * 2 ^ s)) m R) := by rw [hQ]; exact Nat.mul_div_le _ _
        have hG1 : Lim [((Q + c : Nat) : Int)] := Lim.one (by omega) (by omega)
        have hG2 : val [((Q + c : Nat) : Int)] = ((Q + c : Nat) : Int) := val_one _
        have hG3 : [((Q + c : Nat) : Int)].length ≤ 1 := Nat.le_refl _
        clear hL1 hL2 hL3
        refine tri_skip ?_
        refine nx (sl 7 rfl (sl 11 rfl (sl 12 rfl (sl 13 rfl (sl 14 rfl (sl 15 rfl sn)))))) (el 1012 rfl en) ?_
        refine tri_seq ?_
        refine tri_reg mixed hcx ?_ _ _
        refine mv rfl ?_
        refine mv rfl ?_
        refine ln slLs rfl ?_
        refine ca rfl (h := r01_limb (by first | exact dig_lim _ | assumption)) (hn := ?_)
        refine ml ((dig (nextR (dig (M * 2 ^ s)) m R)).getD (dig (N * 2 ^ s)).length cU.dflt * 4294967296) rfl rfl rfl (by omega) ?_
        refine mv rfl ?_
        refine mv rfl ?_
        refine ln slLs rfl ?_
        refine sb ((t : Int)) rfl rfl rfl (by omega) ?_
        refine ca rfl (h := r01_limb (by first | exact dig_lim _ | assumption)) (hn := ?_)
        refine ad _ rfl rfl rfl ⟨rfl, by omega, by omega⟩ ?_
        refine mv rfl ?_
        refine mv rfl ?_
        refine ln slLs rfl ?_
        refine sb ((t : Int)) rfl rfl rfl (by omega) ?_
        refine ca rfl (h := r01_limb (by first | exact dig_lim _ | assumption)) (hn := ?_)
        refine qo _ rfl rfl rfl ⟨rfl, by omega, by omega, by omega⟩ ?_
        refine asg rfl ?_
        refine ⟨by kernel_rfl, ?_⟩
        refine nx (sl 7 rfl (sl 11 rfl (sl 12 rfl (sl 13 rfl (sl 14 rfl (sl 15 rfl (sl 16 rfl sn))))))) (el 1012 rfl en) ?_
        refine tri_join (ι := Unit) (fun _ => [(7, T.l cU (dig N)), (11, T.l cU (dig (M * 2 ^ s))), (12, T.l cU (dig (N * 2 ^ s))), (13, T.o 1012), (14, T.l cU (dig (nextR (dig (M * 2 ^ s)) m R))), (15, T.c (.int .i64 (m : Int))), (16, T.c (.int .u64 ((Q + c : Nat) : Int)))]) (fun _ => [(1012, some (Ent.row cU 119 (qs)))]) (fun _ => True) ?_ ?_
        · refine tri_seq ?_
          refine tri_reg mixed hcx ?_ _ _
          refine mv rfl ?_
          refine cge rfl rfl rfl ?_
          refine ⟨by kernel_rfl, ?_⟩
          refine nx (sl 7 rfl (sl 11 rfl (sl 12 rfl (sl 13 rfl (sl 14 rfl (sl 15 rfl (sl 16 rfl (sl 95 rfl sn)))))))) (el 1012 rfl en) ?_
          refine tri_if rfl (fun hg => ?_) (fun hg => ?_)
          · refine tri_reg mixed hcx ?_ _ _
            refine asg rfl ?_
            refine ⟨by kernel_rfl, ?_⟩
            first | exact pn_join () trivial (sl 7 rfl (sl 11 rfl (sl 12 rfl (sl 13 rfl (sl 14 rfl (sl 15 rfl (sw 16 rfl (ci (mn_big hcg (by omega))) sn))))))) (el 1012 rfl en) | exact pn_join () trivial (sl 7 rfl (sl 11 rfl (sl 12 rfl (sl 13 rfl (sl 14 rfl (sl 15 rfl (sw 16 rfl (ci (mn_small hcg (by omega))) sn))))))) (el 1012 rfl en)
          · refine tri_skip ?_
            first | exact pn_join () trivial (sl 7 rfl (sl 11 rfl (sl 12 rfl (sl 13 rfl (sl 14 rfl (sl 15 rfl (sw 16 rfl (ci (mn_big hcg (by omega))) sn))))))) (el 1012 rfl en) | exact pn_join () trivial (sl 7 rfl (sl 11 rfl (sl 12 rfl (sl 13 rfl (sl 14 rfl (sl 15 rfl (sw 16 rfl (ci (mn_small hcg (by omega))) sn))))))) (el 1012 rfl en)
        · rintro _ _
          refine tri_sub (sl 7 rfl (sl 11 rfl (sl 12 rfl (sl 13 rfl (sl 14 rfl (sl 15 rfl (sl 16 rfl sn))))))) (el 1012 rfl en) ?_
          refine tri_seq ?_
          refine tri_reg mixed hcx ?_ _ _
          refine mv rfl ?_
          refine mv rfl ?_
          refine cvm (((Q + c : Nat) : Int)) rfl cvU64U32 (by omega) ?_
          refine bl1 rfl slLs zvU32 ?_
          refine ca rfl (h := r01_Mul (by omega) (by omega)) (hn := ?_)
          refine asg rfl ?_
          refine ⟨by kernel_rfl, ?_⟩
          refine nx (sl 7 rfl (sl 11 rfl (sl 12 rfl (sl 13 rfl (sl 14 rfl (sl 15 rfl (sl 16 rfl (sl 17 rfl sn)))))))) (el 1012 rfl en) ?_
          refine tri_seq ?_
          refine tri_block ?_
          refine tri_loop (ι := Nat × Nat) (fun (e, p) => [(7, T.l cU (dig N)), (11, T.l cU (dig (M * 2 ^ s))), (12, T.l cU (dig (N * 2 ^ s))), (13, T.o 1012), (14, T.l cU (dig (nextR (dig (M * 2 ^ s)) m R))), (15, T.c (.int .i64 (m : Int))), (16, T.c (.int .u64 ((Q + e : Nat) : Int))), (17, T.l cU (dig p))]) (fun (e, p) => [(1012, some (Ent.row cU 119 (qs)))]) (fun (e, p) => e) (fun (e, p) => (e ≤ c) ∧ (p = (N * 2 ^ s) * (Q + e))) (c, (N * 2 ^ s) * (Q + c)) ⟨Nat.le_refl _, rfl⟩ (sl 7 rfl (sl 11 rfl (sl 12 rfl (sl 13 rfl (sl 14 rfl (sl 15 rfl (sl 16 rfl (sl 17 rfl sn)))))))) (el 1012 rfl en) ?_
          rintro ⟨e, p⟩ ⟨he, hp2⟩
          refine tri_sub (sl 7 rfl (sl 11 rfl (sl 12 rfl (sl 13 rfl (sl 14 rfl (sl 15 rfl (sl 16 rfl (sl 17 rfl sn)))))))) (el 1012 rfl en) ?_
          have hlp : lim p ≤ (t + 1) + 1 := by rw [hp2]; exact Nat.le_trans (lim_mul _ _) (Nat.add_le_add (Nat.le_of_eq hVl) (lim_small (by omega)))
          refine tri_seq ?_
          refine tri_seq ?_
          refine tri_reg mixed hcx ?_ _ _
          refine mv rfl ?_
          refine mv rfl ?_
          refine ca rfl (h := r01_Cmp (by omega) (by omega)) (hn := ?_)
          refine cgt rfl rfl rfl ?_
          refine ⟨by kernel_rfl, ?_⟩
          refine nx (sl 7 rfl (sl 11 rfl (sl 12 rfl (sl 13 rfl (sl 14 rfl (sl 15 rfl (sl 16 rfl (sl 17 rfl (sl 104 rfl sn))))))))) (el 1012 rfl en) ?_
          refine tri_if rfl (fun hz => ?_) (fun hz => ?_)
          · have hpN := Nat.lt_of_not_le fun h => sgnc_not h hz
            obtain ⟨e1, rfl⟩ : ∃ e1, e = e1 + 1 := ⟨e - 1, by { rcases Nat.eq_zero_or_pos e with h | h; { subst h; rw [Nat.add_zero] at hp2; omega }; omega }⟩
            have hpp := mul_pred hp2; have hpp1 := hpp.1
            refine tri_skip ?_
            refine nx (sl 7 rfl (sl 11 rfl (sl 12 rfl (sl 13 rfl (sl 14 rfl (sl 15 rfl (sl 16 rfl (sl 17 rfl sn)))))))) (el 1012 rfl en) ?_
            refine tri_block ?_
            refine tri_seq ?_
            refine tri_reg mixed hcx ?_ _ _
            refine mv rfl ?_
            refine sb (((Q + e1 : Nat) : Int)) rfl rfl rfl (by omega) ?_
            refine asg rfl ?_
            refine ⟨by kernel_rfl, ?_⟩
            refine nx (sl 7 rfl (sl 11 rfl (sl 12 rfl (sl 13 rfl (sl 14 rfl (sl 15 rfl (sl 16 rfl (sl 17 rfl sn)))))))) (el 1012 rfl en) ?_
            refine tri_reg mixed hcx ?_ _ _
            refine mv rfl ?_
            refine mv rfl ?_
            refine ca rfl (h := r01_less (by omega) (by omega) (by omega)) (hn := ?_)
            refine asg rfl ?_
            refine ⟨by kernel_rfl, ?_⟩
            refine pn_blk ?_
            exact pn_back (e1, p - N * 2 ^ s) (by first | omega | (dsimp only; omega)) ⟨by omega, hpp.2⟩ (sl 7 rfl (sl 11 rfl (sl 12 rfl (sl 13 rfl (sl 14 rfl (sl 15 rfl (sl 16 rfl (sl 17 rfl sn)))))))) (el 1012 rfl en)
          · refine tri_exit ?_
            repeat (first | refine pn_then ?_ | refine pn_oth (by decide) ?_)
            refine pn_ex ?_
            have hpR : p ≤ (nextR (dig (M * 2 ^ s)) m R) := Nat.le_of_not_lt fun h => hz (sgnc_yes h)
            obtain rfl : e = 0 := Nat.eq_zero_of_not_pos fun h => by { obtain ⟨e1, rfl⟩ : ∃ e1, e = e1 + 1 := ⟨e - 1, by omega⟩; have := lt_mul_next (e := e1) hV0 hQ; omega }
            rw [Nat.add_zero] at hp2; subst hp2
            refine nx (sl 7 rfl (sl 11 rfl (sl 12 rfl (sl 13 rfl (sl 14 rfl (sl 15 rfl (sl 16 rfl (sl 17 rfl sn)))))))) (el 1012 rfl en) ?_
            refine tri_seq ?_
            refine tri_reg mixed hcx ?_ _ _
            refine mv rfl ?_
            refine mv rfl ?_
            refine mv rfl ?_
            refine cvm ((Q : Int)) rfl cvU64U32 (by omega) ?_
            refine ixo rfl rfl rfl slLs ⟨rfl, by omega⟩ ?_
            refine so rfl rfl rfl (.refl _) tyU32 ⟨rfl, by omega⟩ ?_
            refine ⟨by kernel_rfl, ?_⟩
            refine nx (sl 7 rfl (sl 11 rfl (sl 12 rfl (sl 13 rfl (sl 14 rfl (sl 15 rfl (sl 17 rfl sn))))))) (el 1012 rfl en) ?_
            refine tri_reg mixed hcx ?_ _ _
            refine mv rfl ?_
            refine mv rfl ?_
            refine ca rfl (h := r01_less (by omega) (by omega) (by omega)) (hn := ?_)
            refine asg rfl ?_
            refine ⟨by kernel_rfl, ?_⟩
            refine pn_blk ?_
            refine nx (sl 7 rfl (sl 11 rfl (sl 12 rfl (sl 13 rfl (sl 14 rfl (sl 15 rfl sn)))))) (el 1012 rfl en) ?_
            refine tri_reg mixed hcx ?_ _ _
            refine mv rfl ?_
            refine sb (((m : Int) - 1)) rfl rfl rfl (by omega) ?_
            refine asg rfl ?_
            refine ⟨by kernel_rfl, ?_⟩
            exact pn_back (m, (nextR (dig (M * 2 ^ s)) m R) - (N * 2 ^ s) * Q, qs.set m (Q : Int)) (by first | omega | (dsimp only; omega)) ⟨by omega, dvI_put' hI (by omega) (dig_lim _) hV0 hQ rfl⟩ (sl 7 rfl (sl 11 rfl (sl 12 rfl (sl 13 rfl (sl 14 rfl (sl 15 rfl sn)))))) (el 1012 rfl en)

theorem r01_Gcd {M N k l : Nat} (hk : k ≤ 1099511627776) (hl : l ≤ 1099511627776) : Fn Tryz.prog 167 [T.L M k, T.L N l] [] [] [] (T.l cU (dig (Nat.gcd M N))) := by
  refine fn_of Tryz.func167 rfl (by show 2 ≤ 27; decide) fun cx hcx => ?_
  refine tri_sub (sl 0 rfl (sl 1 rfl sn)) en ?_
  refine tri_ex 0 rfl fun xs ⟨hl0, hv0, hb0⟩ => ?_
  refine tri_ex 1 rfl fun ys ⟨hl1, hv1, hb1⟩ => ?_
  have hM := lim_val hl0 hv0 hb0; have hN := lim_val hl1 hv1 hb1; unfold lim at hM hN
  refine tri_seq ?_
  refine tri_reg mixed hcx ?_ _ _
  refine asg rfl ?_
  refine ⟨by kernel_rfl, ?_⟩
  refine nx (sl 0 rfl (sl 1 rfl sn)) en ?_
  refine tri_seq ?_
  refine tri_reg mixed hcx ?_ _ _
  refine mv rfl ?_
  refine ca rfl (h := r01_Norm (by omega)) (hn := ?_)
  refine asg rfl ?_
  refine ⟨by kernel_rfl, ?_⟩
  refine nx (sl 1 rfl (sl 5 rfl sn)) en ?_
  refine tri_seq ?_
  refine tri_reg mixed hcx ?_ _ _
  refine mv rfl ?_
  refine ca rfl (h := r01_Norm (by omega)) (hn := ?_)
  refine asg rfl ?_
  refine ⟨by kernel_rfl, ?_⟩
  refine nx (sl 5 rfl (sl 6 rfl sn)) en ?_
  refine tri_seq ?_
  refine tri_block ?_
  refine tri_loop (ι := Nat × Nat) (fun (a, b) => [(5, T.l cU (dig a)), (6, T.l cU (dig b))]) (fun (a, b) => []) (fun (a, b) => b) (fun (a, b) => (Nat.gcd a b = Nat.gcd M N) ∧ (lim a ≤ 1099511627776) ∧ (lim b ≤ 1099511627776)) (M, N) ⟨rfl, Nat.le_trans hM hk, Nat.le_trans hN hl⟩ (sl 5 rfl (sl 6 rfl sn)) en ?_
  rintro ⟨a, b⟩ ⟨hg, ha, hb⟩
  refine tri_sub (sl 5 rfl (sl 6 rfl sn)) en ?_
  refine tri_seq ?_
  refine tri_seq ?_
  refine tri_reg mixed hcx ?_ _ _
  refine mv rfl ?_
  refine ln slLs rfl ?_
  refine cgt rfl rfl rfl ?_
  refine ⟨by kernel_rfl, ?_⟩
  refine nx (sl 5 rfl (sl 6 rfl (sl 16 rfl sn))) en ?_
  refine tri_if rfl (fun hc => ?_) (fun hc => ?_)
  · have hb0 : 0 < b := Nat.pos_of_ne_zero fun h => by { subst h; rw [dig_zero] at hc; simp at hc }
    refine tri_skip ?_
    refine nx (sl 5 rfl (sl 6 rfl sn)) en ?_
    refine tri_block ?_
    refine tri_seq ?_
    refine tri_reg mixed hcx ?_ _ _
    refine mv rfl ?_
    refine mv rfl ?_
    refine ca rfl (h := r01_Div (by omega) (by omega) (by omega) (by omega)) (hn := ?_)
    refine mv rfl ?_
    refine ex rfl rfl ?_
    refine ex rfl rfl ?_
    refine ex rfl rfl ?_
    refine asg rfl ?_
    refine asg rfl ?_
    refine asg rfl ?_
    refine ⟨by kernel_rfl, ?_⟩
    refine nx (sl 6 rfl (sl 8 rfl sn)) en ?_
    refine tri_seq ?_
    refine tri_reg mixed hcx ?_ _ _
    refine mv rfl ?_
    refine asg rfl ?_
    refine ⟨by kernel_rfl, ?_⟩
    refine nx (sl 5 rfl (sl 8 rfl sn)) en ?_
    refine tri_reg mixed hcx ?_ _ _
    refine mv rfl ?_
    refine asg rfl ?_
    refine ⟨by kernel_rfl, ?_⟩
    refine pn_blk ?_
    exact pn_back (b, a % b) (Nat.mod_lt a hb0) ⟨by rw [← hg, Nat.gcd_comm a b, Nat.gcd_rec b a, Nat.gcd_comm], hb, Nat.le_trans (lim_mono (Nat.le_of_lt (Nat.mod_lt a hb0))) hb⟩ (sl 5 rfl (sl 6 rfl sn)) en
  · refine tri_exit ?_
    repeat (first | refine pn_then ?_ | refine pn_oth (by decide) ?_)
    refine pn_ex ?_
    obtain rfl : b = 0 := Nat.eq_zero_of_not_pos fun h => by { have := lim_ps h; unfold lim at this; omega }
    rw [Nat.gcd_zero_right] at hg
    refine nx (sl 5 rfl sn) en ?_
    refine tri_seq ?_
    refine tri_reg mixed hcx ?_ _ _
    refine mv rfl ?_
    refine asg rfl ?_
    refine ⟨by kernel_rfl, ?_⟩
    refine nx (sl 4 rfl sn) en ?_
    refine tri_ret ?_
    repeat (first | refine pn_thenr ?_ | refine pn_blkr ?_)
    exact ret1 hcx rfl (rv_tmp rfl) (.of (by rw [hg])) en
end Go.Proofs.YtekghdfbhbhigaaGreat.V
/- Contracts of the document: whole numbers, fractions. -/
set_option linter.unusedVariables false
set_option linter.unusedSimpArgs false
set_option maxRecDepth 100000
namespace Go.Proofs.YtekghdfbhbhigaaGreat.V
open Go.RowKit Mt Nml
theorem rmT {N k : Nat} (hk : lim N ≤ k) : (T.st [T.c (.bool (decide ((0 : Int) < ((dig N).length : Int)))), T.l cU (dig N)]).le (T.Z (intv true N) k) := by
  rcases Nat.eq_zero_or_pos N with h | h
  · subst h
    rw [dig_zero]
    have e := z_of (s := false) (z := intv true 0) (k := k) rfl (by rw [zl_intv, lim_zero]; omega)
    rw [show (intv true 0).natAbs = 0 from rfl, dig_zero] at e
    exact e
  · have h1 := lim_ps h
    unfold lim at h1
    rw [decide_eq_true (by omega)]
    exact made1 (lim_ps h) hk
theorem rmF {N k : Nat} (hk : lim N ≤ k) : (T.st [T.c (.bool false), T.l cU (dig N)]).le (T.Z (intv false N) k) := by
  have e := z_of (s := false) (z := intv false N) (k := k) (by show false = decide ((N : Int) < 0); exact (decide_eq_false (by omega)).symm) (by rw [zl_intv]; exact hk)
  rwa [intv_natAbs] at e

theorem r02_made {s : Bool} {N k : Nat} (hk : k ≤ 17592186044416) : Fn Tryz.prog 110 [T.c (.bool s), T.L N k] [] [] [] (T.Z (intv s N) k) := by
  refine fn_of Tryz.func110 rfl (by show 2 ≤ 16; decide) fun cx hcx => ?_
  refine tri_sub (sl 0 rfl (sl 1 rfl sn)) en ?_
  refine tri_ex 1 rfl fun xs ⟨hl, hv, hb⟩ => ?_
  have hN := lim_val hl hv hb
  refine tri_seq ?_
  refine tri_reg mixed hcx ?_ _ _
  refine nw 10 zeZ ?_
  refine ⟨by kernel_rfl, ?_⟩
  refine nx (sl 0 rfl (sl 1 rfl (sl 4 rfl sn))) (el 10 rfl en) ?_
  refine tri_seq ?_
  refine tri_reg mixed hcx ?_ _ _
  refine mv rfl ?_
  refine ca rfl (h := r01_Norm (by omega)) (hn := ?_)
  refine asg rfl ?_
  refine ⟨by kernel_rfl, ?_⟩
  refine nx (sl 0 rfl (sl 4 rfl (sl 5 rfl sn))) (el 10 rfl en) ?_
  refine tri_seq ?_
  rcases Bool.eq_false_or_eq_true s with h0 | h0
  · subst h0
    refine tri_reg mixed hcx ?_ _ _
    refine mv rfl ?_
    refine mv rfl ?_
    refine mv rfl ?_ (hg := gd1)
    refine ln slLs rfl ?_ (hg := gd1)
    refine cgt rfl rfl rfl ?_ (hg := gd1)
    refine pk rfl rfl ?_
    refine mv rfl ?_
    refine bu stZ rfl ?_
    refine st rfl rfl rfl tyZ rfl ?_
    refine ⟨by kernel_rfl, ?_⟩
    refine nx (sl 4 rfl sn) (el 10 rfl en) ?_
    refine tri_ret ?_
    repeat (first | refine pn_thenr ?_ | refine pn_blkr ?_)
    exact ret1 hcx rfl (rv_cell (c' := cx) (n := 0) rfl rfl tyZ rfl) (rmT hN) en
  · subst h0
    refine tri_reg mixed hcx ?_ _ _
    refine mv rfl ?_
    refine mv rfl ?_
    refine j_off rfl rfl rfl rfl ?_
    refine j_off rfl rfl rfl rfl ?_
    refine j_off rfl rfl rfl rfl ?_
    refine pk rfl rfl ?_
    refine mv rfl ?_
    refine bu stZ rfl ?_
    refine st rfl rfl rfl tyZ rfl ?_
    refine ⟨by kernel_rfl, ?_⟩
    refine nx (sl 4 rfl sn) (el 10 rfl en) ?_
    refine tri_ret ?_
    repeat (first | refine pn_thenr ?_ | refine pn_blkr ?_)
    exact ret1 hcx rfl (rv_cell (c' := cx) (n := 0) rfl rfl tyZ rfl) (rmF hN) en

theorem r02_Norm {z : Int} {k : Nat} (hk : k ≤ 17592186044416) : Fn Tryz.prog 54 [T.Zi z k] [] [] [] (T.Z z k) := by
  refine fn_of Tryz.func54 rfl (by show 1 ≤ 8; decide) fun cx hcx => ?_
  refine tri_sub (sl 0 rfl sn) en ?_
  refine tri_zi 0 rfl fun s0 M0 x0 hl0 hv0 hb0 hz0 hq0 => ?_
  subst hz0; have hB0 := lim_val hl0 hv0 hb0
  refine tri_seq ?_
  refine tri_reg mixed hcx ?_ _ _
  refine bxs 10 rfl ?_
  refine nw 11 zeZ ?_
  refine ⟨by kernel_rfl, ?_⟩
  refine nx (sl 1 rfl (sl 2 rfl sn)) (el 10 rfl (el 11 rfl en)) ?_
  refine tri_seq ?_
  refine tri_reg mixed hcx ?_ _ _
  refine fa rfl fNeg 0 ?_
  refine ld rfl rfl tyB rfl ?_
  refine fa rfl fMag 1 ?_
  refine ld rfl rfl tyLs rfl ?_
  refine ca rfl (h := r02_made (by omega)) (hn := ?_)
  refine st rfl rfl rfl tyZ rfl ?_
  refine ⟨by kernel_rfl, ?_⟩
  refine nx (sl 2 rfl sn) (el 10 rfl (el 11 rfl en)) ?_
  refine tri_ret ?_
  repeat (first | refine pn_thenr ?_ | refine pn_blkr ?_)
  exact ret1 hcx rfl (rv_cell (c' := cx) (n := 0) rfl rfl tyZ rfl) (.refl _) en

theorem r02_Neg {z : Int} {k : Nat} (hk : k ≤ 17592186044416) : Fn Tryz.prog 58 [T.Zi z k] [] [] [] (T.Z (-z) k) := by
  refine fn_of Tryz.func58 rfl (by show 1 ≤ 9; decide) fun cx hcx => ?_
  refine tri_sub (sl 0 rfl sn) en ?_
  refine tri_zi 0 rfl fun s0 M0 x0 hl0 hv0 hb0 hz0 hq0 => ?_
  subst hz0; have hB0 := lim_val hl0 hv0 hb0
  refine tri_seq ?_
  refine tri_reg mixed hcx ?_ _ _
  refine bxs 10 rfl ?_
  refine nw 11 zeZ ?_
  refine ⟨by kernel_rfl, ?_⟩
  refine nx (sl 1 rfl (sl 2 rfl sn)) (el 10 rfl (el 11 rfl en)) ?_
  refine tri_seq ?_
  refine tri_reg mixed hcx ?_ _ _
  refine fa rfl fNeg 0 ?_
  refine ld rfl rfl tyB rfl ?_
  refine nt rfl _ rfl ?_
  refine fa rfl fMag 1 ?_
  refine ld rfl rfl tyLs rfl ?_
  refine ca rfl (h := r02_made (by omega)) (hn := ?_)
  refine st rfl rfl rfl tyZ rfl ?_
  refine ⟨by kernel_rfl, ?_⟩
  refine nx (sl 2 rfl sn) (el 10 rfl (el 11 rfl en)) ?_
  refine tri_ret ?_
  repeat (first | refine pn_thenr ?_ | refine pn_blkr ?_)
  exact ret1 hcx rfl (rv_cell (c' := cx) (n := 0) rfl rfl tyZ rfl) (z_cast (intv_not _ _) (Nat.le_refl _)) en

theorem dig_len0 {M : Nat} (h : ((dig M).length : Int) = 0) : M = 0 := Nat.eq_zero_of_not_pos fun h1 => by have := lim_ps h1; unfold lim at this; omega
theorem dig_len1 {M : Nat} (h : ¬ ((dig M).length : Int) = 0) : M ≠ 0 := fun e => by subst e; rw [dig_zero] at h; exact h rfl

theorem r02_Sign {z : Int} {k : Nat} (hk : k ≤ 17592186044416) : Fn Tryz.prog 67 [T.Zi z k] [] [] [] (T.c (.int .i64 (sg z))) := by
  refine fn_of Tryz.func67 rfl (by show 1 ≤ 14; decide) fun cx hcx => ?_
  refine tri_sub (sl 0 rfl sn) en ?_
  refine tri_zi 0 rfl fun s0 M0 x0 hl0 hv0 hb0 hz0 hq0 => ?_
  subst hz0; have hB0 := lim_val hl0 hv0 hb0
  refine tri_seq ?_
  refine tri_reg mixed hcx ?_ _ _
  refine bxs 10 rfl ?_
  refine asg rfl ?_
  refine ⟨by kernel_rfl, ?_⟩
  refine nx (sl 1 rfl sn) (el 10 rfl en) ?_
  refine tri_seq ?_
  refine tri_reg mixed hcx ?_ _ _
  refine fa rfl fMag 1 ?_
  refine ld rfl rfl tyLs rfl ?_
  refine ca rfl (h := r01_Norm (by omega)) (hn := ?_)
  refine asg rfl ?_
  refine ⟨by kernel_rfl, ?_⟩
  refine nx (sl 1 rfl (sl 3 rfl sn)) (el 10 rfl en) ?_
  refine tri_seq ?_
  refine tri_block ?_
  refine tri_seq ?_
  refine tri_reg mixed hcx ?_ _ _
  refine mv rfl ?_
  refine ln slLs rfl ?_
  refine ceq rfl rfl rfl ?_
  refine asg rfl ?_
  refine ⟨by kernel_rfl, ?_⟩
  refine nx (sl 1 rfl (sl 7 rfl sn)) (el 10 rfl en) ?_
  refine tri_if rfl (fun hc => ?_) (fun hc => ?_)
  · refine tri_seq ?_
    refine tri_reg mixed hcx ?_ _ _
    refine asg rfl ?_
    refine ⟨by kernel_rfl, ?_⟩
    refine nx (sl 2 rfl sn) (el 10 rfl en) ?_
    refine tri_ret ?_
    repeat (first | refine pn_thenr ?_ | refine pn_blkr ?_)
    exact ret1 hcx rfl (rv_tmp rfl) (ci (sgi_zero (dig_len0 hc)).symm) en
  · refine tri_seq ?_
    rcases Bool.eq_false_or_eq_true s0 with h0 | h0
    · subst h0
      refine tri_reg mixed hcx ?_ _ _
      refine fa rfl fNeg 0 ?_
      refine ld rfl rfl tyB rfl ?_
      refine asg rfl ?_
      refine ⟨by kernel_rfl, ?_⟩
      refine nx (sl 11 rfl sn) (el 10 rfl en) ?_
      refine tri_true rfl rfl ?_
      refine tri_seq ?_
      refine tri_reg mixed hcx ?_ _ _
      refine asg rfl ?_
      refine ⟨by kernel_rfl, ?_⟩
      refine nx (sl 2 rfl sn) (el 10 rfl en) ?_
      refine tri_ret ?_
      repeat (first | refine pn_thenr ?_ | refine pn_blkr ?_)
      exact ret1 hcx rfl (rv_tmp rfl) (ci (sgi_neg (dig_len1 hc)).symm) en
    · subst h0
      refine tri_reg mixed hcx ?_ _ _
      refine fa rfl fNeg 0 ?_
      refine ld rfl rfl tyB rfl ?_
      refine asg rfl ?_
      refine ⟨by kernel_rfl, ?_⟩
      refine nx (sl 11 rfl sn) (el 10 rfl en) ?_
      refine tri_false rfl rfl ?_
      refine tri_skip ?_
      refine pn_blk ?_
      refine nx sn (el 10 rfl en) ?_
      refine tri_seq ?_
      refine tri_reg mixed hcx ?_ _ _
      refine asg rfl ?_
      refine ⟨by kernel_rfl, ?_⟩
      refine nx (sl 2 rfl sn) (el 10 rfl en) ?_
      refine tri_ret ?_
      repeat (first | refine pn_thenr ?_ | refine pn_blkr ?_)
      exact ret1 hcx rfl (rv_tmp rfl) (ci (sgi_pos (dig_len1 hc)).symm) en

theorem r02_Mul {a b : Int} {k l : Nat} (hk : k ≤ 8796093022208) (hl : l ≤ 8796093022208) : Fn Tryz.prog 62 [T.Zi a k, T.Zi b l] [] [] [] (T.Z (a * b) (k + l)) := by
  refine fn_of Tryz.func62 rfl (by show 2 ≤ 16; decide) fun cx hcx => ?_
  refine tri_sub (sl 0 rfl (sl 1 rfl sn)) en ?_
  refine tri_zi 0 rfl fun s0 M0 x0 hl0 hv0 hb0 hz0 hq0 => ?_
  subst hz0; have hB0 := lim_val hl0 hv0 hb0
  refine tri_zi 1 rfl fun s1 M1 x1 hl1 hv1 hb1 hz1 hq1 => ?_
  subst hz1; have hB1 := lim_val hl1 hv1 hb1
  have hzA := zl_mul (z_bd (s := s0) hl0 hv0 hb0) (z_bd (s := s1) hl1 hv1 hb1)
  have hlA := Nat.le_trans (lim_mul M0 M1) (Nat.add_le_add hB0 hB1)
  refine tri_seq ?_
  refine tri_reg mixed hcx ?_ _ _
  refine bxs 10 rfl ?_
  refine bxs 11 rfl ?_
  refine nw 12 zeZ ?_
  refine ⟨by kernel_rfl, ?_⟩
  refine nx (sl 2 rfl (sl 3 rfl (sl 4 rfl sn))) (el 10 rfl (el 11 rfl (el 12 rfl en))) ?_
  refine tri_seq ?_
  refine tri_reg mixed hcx ?_ _ _
  refine fa rfl fNeg 0 ?_
  refine ld rfl rfl tyB rfl ?_
  refine fa rfl fNeg 0 ?_
  refine ld rfl rfl tyB rfl ?_
  refine neb rfl rfl rfl ?_
  refine fa rfl fMag 1 ?_
  refine ld rfl rfl tyLs rfl ?_
  refine fa rfl fMag 1 ?_
  refine ld rfl rfl tyLs rfl ?_
  refine ca rfl (h := r01_Mul (by omega) (by omega)) (hn := ?_)
  refine ca rfl (h := r02_made (by omega)) (hn := ?_)
  refine st rfl rfl rfl tyZ rfl ?_
  refine ⟨by kernel_rfl, ?_⟩
  refine nx (sl 4 rfl sn) (el 10 rfl (el 11 rfl (el 12 rfl en))) ?_
  refine tri_ret ?_
  repeat (first | refine pn_thenr ?_ | refine pn_blkr ?_)
  exact ret1 hcx rfl (rv_cell (c' := cx) (n := 0) rfl rfl tyZ rfl) ((z_cast (intv_mul _ _ _ _).symm (Nat.le_refl _)).trans (z_as hzA)) en

theorem r02_Add {a b : Int} {k l : Nat} (hk : k ≤ 4398046511104) (hl : l ≤ 4398046511104) : Fn Tryz.prog 57 [T.Zi a k, T.Zi b l] [] [] [] (T.Z (a + b) (k + l + 1)) := by
  refine fn_of Tryz.func57 rfl (by show 2 ≤ 52; decide) fun cx hcx => ?_
  refine tri_sub (sl 0 rfl (sl 1 rfl sn)) en ?_
  refine tri_zi 0 rfl fun s0 M0 x0 hl0 hv0 hb0 hz0 hq0 => ?_
  subst hz0; have hB0 := lim_val hl0 hv0 hb0
  refine tri_zi 1 rfl fun s1 M1 x1 hl1 hv1 hb1 hz1 hq1 => ?_
  subst hz1; have hB1 := lim_val hl1 hv1 hb1
  have hzA := zl_add (z_bd (s := s0) hl0 hv0 hb0) (z_bd (s := s1) hl1 hv1 hb1)
  have hlA := lim_add2 hB0 hB1
  refine tri_seq ?_
  refine tri_reg mixed hcx ?_ _ _
  refine bxs 10 rfl ?_
  refine bxs 11 rfl ?_
  refine nw 12 zeZ ?_
  refine ⟨by kernel_rfl, ?_⟩
  refine nx (sl 2 rfl (sl 3 rfl (sl 4 rfl sn))) (el 10 rfl (el 11 rfl (el 12 rfl en))) ?_
  refine tri_seq ?_
  refine tri_seq ?_
  by_cases hs : s0 = s1
  · subst hs
    refine tri_reg mixed hcx ?_ _ _
    refine fa rfl fNeg 0 ?_
    refine ld rfl rfl tyB rfl ?_
    refine fa rfl fNeg 0 ?_
    refine ld rfl rfl tyB rfl ?_
    refine eqb rfl rfl (beq_self_eq_true _) ?_
    refine ⟨by kernel_rfl, ?_⟩
    refine nx (sl 2 rfl (sl 3 rfl (sl 4 rfl (sl 13 rfl sn)))) (el 10 rfl (el 11 rfl (el 12 rfl en))) ?_
    refine tri_true rfl rfl ?_
    refine tri_seq ?_
    refine tri_reg mixed hcx ?_ _ _
    refine fa rfl fNeg 0 ?_
    refine ld rfl rfl tyB rfl ?_
    refine fa rfl fMag 1 ?_
    refine ld rfl rfl tyLs rfl ?_
    refine fa rfl fMag 1 ?_
    refine ld rfl rfl tyLs rfl ?_
    refine ca rfl (h := r01_Add (by omega) (by omega)) (hn := ?_)
    refine ca rfl (h := r02_made (by omega)) (hn := ?_)
    refine st rfl rfl rfl tyZ rfl ?_
    refine ⟨by kernel_rfl, ?_⟩
    refine nx (sl 4 rfl sn) (el 10 rfl (el 11 rfl (el 12 rfl en))) ?_
    refine tri_ret ?_
    repeat (first | refine pn_thenr ?_ | refine pn_blkr ?_)
    exact ret1 hcx rfl (rv_cell (c' := cx) (n := 0) rfl rfl tyZ rfl) ((z_cast (intv_add _ _ _).symm (Nat.le_refl _)).trans (z_as hzA)) en
  · refine tri_reg mixed hcx ?_ _ _
    refine fa rfl fNeg 0 ?_
    refine ld rfl rfl tyB rfl ?_
    refine fa rfl fNeg 0 ?_
    refine ld rfl rfl tyB rfl ?_
    refine eqb rfl rfl (beq_false_of_ne hs) ?_
    refine ⟨by kernel_rfl, ?_⟩
    refine nx (sl 2 rfl (sl 3 rfl (sl 4 rfl (sl 13 rfl sn)))) (el 10 rfl (el 11 rfl (el 12 rfl en))) ?_
    refine tri_false rfl rfl ?_
    refine tri_skip ?_
    refine nx (sl 2 rfl (sl 3 rfl (sl 4 rfl sn))) (el 10 rfl (el 11 rfl (el 12 rfl en))) ?_
    refine tri_seq ?_
    refine tri_seq ?_
    refine tri_reg mixed hcx ?_ _ _
    refine fa rfl fMag 1 ?_
    refine ld rfl rfl tyLs rfl ?_
    refine fa rfl fMag 1 ?_
    refine ld rfl rfl tyLs rfl ?_
    refine ca rfl (h := r01_Cmp (by omega) (by omega)) (hn := ?_)
    refine cge rfl rfl rfl ?_
    refine ⟨by kernel_rfl, ?_⟩
    refine nx (sl 2 rfl (sl 3 rfl (sl 4 rfl (sl 27 rfl sn)))) (el 10 rfl (el 11 rfl (el 12 rfl en))) ?_
    refine tri_if rfl (fun hc => ?_) (fun hc => ?_)
    · have hge := sgnc_nlt (fun h => by omega : ¬ sgnc (M0 : Int) M1 < 0); have hlD : lim (M0 - M1) ≤ k := Nat.le_trans (lim_mono (Nat.sub_le _ _)) hB0
      refine tri_seq ?_
      refine tri_reg mixed hcx ?_ _ _
      refine fa rfl fMag 1 ?_
      refine ld rfl rfl tyLs rfl ?_
      refine fa rfl fMag 1 ?_
      refine ld rfl rfl tyLs rfl ?_
      refine ca rfl (h := r01_Sub (by omega) (by omega) (by omega)) (hn := ?_)
      refine mv rfl ?_
      refine ex rfl rfl ?_
      refine ex rfl rfl ?_
      refine asg rfl ?_
      refine asg rfl ?_
      refine ⟨by kernel_rfl, ?_⟩
      refine nx (sl 2 rfl (sl 4 rfl (sl 5 rfl sn))) (el 10 rfl (el 11 rfl (el 12 rfl en))) ?_
      refine tri_seq ?_
      refine tri_reg mixed hcx ?_ _ _
      refine fa rfl fNeg 0 ?_
      refine ld rfl rfl tyB rfl ?_
      refine mv rfl ?_
      refine ca rfl (h := r02_made (by omega)) (hn := ?_)
      refine st rfl rfl rfl tyZ rfl ?_
      refine ⟨by kernel_rfl, ?_⟩
      refine nx (sl 4 rfl sn) (el 10 rfl (el 11 rfl (el 12 rfl en))) ?_
      refine tri_ret ?_
      repeat (first | refine pn_thenr ?_ | refine pn_blkr ?_)
      exact ret1 hcx rfl (rv_cell (c' := cx) (n := 0) rfl rfl tyZ rfl) ((z_cast (intv_diff hs hge) (Nat.le_refl _)).trans (z_as hzA)) en
    · have hge := sgnc_neg (by omega : sgnc (M0 : Int) M1 < 0); have hlD : lim (M1 - M0) ≤ l := Nat.le_trans (lim_mono (Nat.sub_le _ _)) hB1
      refine tri_skip ?_
      refine nx (sl 2 rfl (sl 3 rfl (sl 4 rfl sn))) (el 10 rfl (el 11 rfl (el 12 rfl en))) ?_
      refine tri_seq ?_
      refine tri_reg mixed hcx ?_ _ _
      refine fa rfl fMag 1 ?_
      refine ld rfl rfl tyLs rfl ?_
      refine fa rfl fMag 1 ?_
      refine ld rfl rfl tyLs rfl ?_
      refine ca rfl (h := r01_Sub (by omega) (by omega) (by omega)) (hn := ?_)
      refine mv rfl ?_
      refine ex rfl rfl ?_
      refine ex rfl rfl ?_
      refine asg rfl ?_
      refine asg rfl ?_
      refine ⟨by kernel_rfl, ?_⟩
      refine nx (sl 3 rfl (sl 4 rfl (sl 7 rfl sn))) (el 10 rfl (el 11 rfl (el 12 rfl en))) ?_
      refine tri_seq ?_
      refine tri_reg mixed hcx ?_ _ _
      refine fa rfl fNeg 0 ?_
      refine ld rfl rfl tyB rfl ?_
      refine mv rfl ?_
      refine ca rfl (h := r02_made (by omega)) (hn := ?_)
      refine st rfl rfl rfl tyZ rfl ?_
      refine ⟨by kernel_rfl, ?_⟩
      refine nx (sl 4 rfl sn) (el 10 rfl (el 11 rfl (el 12 rfl en))) ?_
      refine tri_ret ?_
      repeat (first | refine pn_thenr ?_ | refine pn_blkr ?_)
      exact ret1 hcx rfl (rv_cell (c' := cx) (n := 0) rfl rfl tyZ rfl) ((z_cast ((intv_diff (fun h => hs h.symm) (by omega)).trans (Int.add_comm _ _)) (Nat.le_refl _)).trans (z_as hzA)) en

theorem r02_Sub {a b : Int} {k l : Nat} (hk : k ≤ 4398046511104) (hl : l ≤ 4398046511104) : Fn Tryz.prog 15 [T.Zi a k, T.Zi b l] [] [] [] (T.Z (a - b) (k + l + 1)) := by
  refine fn_of Tryz.func15 rfl (by show 2 ≤ 9; decide) fun cx hcx => ?_
  refine tri_sub (sl 0 rfl (sl 1 rfl sn)) en ?_
  refine tri_seq ?_
  refine tri_reg mixed hcx ?_ _ _
  refine bx 10 rfl ?_
  refine bx 11 rfl ?_
  refine nw 12 zeZ ?_
  refine ⟨by kernel_rfl, ?_⟩
  refine nx (sl 2 rfl (sl 3 rfl (sl 4 rfl sn))) (el 10 rfl (el 11 rfl (el 12 rfl en))) ?_
  refine tri_seq ?_
  refine tri_reg mixed hcx ?_ _ _
  refine ld rfl rfl tyZ rfl ?_
  refine ld rfl rfl tyZ rfl ?_
  refine ca rfl (h := r02_Neg (by omega)) (hn := ?_)
  refine ca rfl (h := r02_Add (by omega) (by omega)) (hn := ?_)
  refine st rfl rfl rfl tyZ rfl ?_
  refine ⟨by kernel_rfl, ?_⟩
  refine nx (sl 4 rfl sn) (el 10 rfl (el 11 rfl (el 12 rfl en))) ?_
  refine tri_ret ?_
  repeat (first | refine pn_thenr ?_ | refine pn_blkr ?_)
  exact ret1 hcx rfl (rv_cell (c' := cx) (n := 0) rfl rfl tyZ rfl) (z_cast Int.sub_eq_add_neg.symm (Nat.le_refl _)) en

theorem sg_sub (a b : Int) : sg (a - b) = sgnc a b := by unfold sg sgnc; split <;> split <;> (try split) <;> (try split) <;> omega

theorem r02_Cmp {a b : Int} {k l : Nat} (hk : k ≤ 4398046511104) (hl : l ≤ 4398046511104) : Fn Tryz.prog 123 [T.Zi a k, T.Zi b l] [] [] [] (T.c (.int .i64 (sgnc a b))) := by
  refine fn_of Tryz.func123 rfl (by show 2 ≤ 9; decide) fun cx hcx => ?_
  refine tri_sub (sl 0 rfl (sl 1 rfl sn)) en ?_
  refine tri_seq ?_
  refine tri_reg mixed hcx ?_ _ _
  refine bx 10 rfl ?_
  refine bx 11 rfl ?_
  refine asg rfl ?_
  refine ⟨by kernel_rfl, ?_⟩
  refine nx (sl 2 rfl (sl 3 rfl sn)) (el 10 rfl (el 11 rfl en)) ?_
  refine tri_seq ?_
  refine tri_reg mixed hcx ?_ _ _
  refine ld rfl rfl tyZ rfl ?_
  refine ld rfl rfl tyZ rfl ?_
  refine ca rfl (h := r02_Sub (by omega) (by omega)) (hn := ?_)
  refine ca rfl (h := r02_Sign (by omega)) (hn := ?_)
  refine asg rfl ?_
  refine ⟨by kernel_rfl, ?_⟩
  refine nx (sl 4 rfl sn) (el 10 rfl (el 11 rfl en)) ?_
  refine tri_ret ?_
  repeat (first | refine pn_thenr ?_ | refine pn_blkr ?_)
  exact ret1 hcx rfl (rv_tmp rfl) (ci (sg_sub _ _)) en

theorem r02_Of {n : Int} (h0 : -9223372036854775808 ≤ n) (h1 : n < 9223372036854775808) : Fn Tryz.prog 56 [T.c (.int .i64 n)] [] [] [] (T.Z n 2) := by
  refine fn_of Tryz.func56 rfl (by show 1 ≤ 19; decide) fun cx hcx => ?_
  refine tri_sub (sl 0 rfl sn) en ?_
  refine tri_seq ?_
  refine tri_reg mixed hcx ?_ _ _
  refine nw 10 zeZ ?_
  refine ⟨by kernel_rfl, ?_⟩
  refine nx (sl 0 rfl (sl 2 rfl sn)) (el 10 rfl en) ?_
  refine tri_seq ?_
  refine tri_reg mixed hcx ?_ _ _
  refine mv rfl ?_
  refine cvw (n % 18446744073709551616) rfl cvI64U64 rfl ?_
  refine asg rfl ?_
  refine ⟨by kernel_rfl, ?_⟩
  refine nx (sl 0 rfl (sl 2 rfl (sl 3 rfl sn))) (el 10 rfl en) ?_
  refine tri_seq ?_
  refine tri_seq ?_
  refine tri_reg mixed hcx ?_ _ _
  refine mv rfl ?_
  refine clt rfl rfl rfl ?_
  refine ⟨by kernel_rfl, ?_⟩
  refine nx (sl 0 rfl (sl 2 rfl (sl 3 rfl (sl 7 rfl sn)))) (el 10 rfl en) ?_
  refine tri_if rfl (fun hc => ?_) (fun hc => ?_)
  · refine tri_reg mixed hcx ?_ _ _
    refine mv rfl ?_
    refine ngm (-n) rfl (by omega) ?_
    refine asg rfl ?_
    refine ⟨by kernel_rfl, ?_⟩
    refine nx (sl 0 rfl (sl 2 rfl (sl 3 rfl sn))) (el 10 rfl en) ?_
    refine tri_seq ?_
    obtain ⟨hL1, hL2⟩ := two_limbs (u := -n) (N := n.natAbs) (by omega) (by omega); have hL3 : [-n % 4294967296, -n / 4294967296].length ≤ 2 := Nat.le_refl _
    refine tri_reg mixed hcx ?_ _ _
    refine mv rfl ?_
    refine clt rfl rfl (decide_eq_true (by omega)) ?_
    refine mv rfl ?_
    refine cvm _ rfl cvU64U32 rfl ?_
    refine mv rfl ?_
    refine shR (s := 32) (-n / 4294967296) rfl rfl rfl ⟨by omega, by omega, by decide⟩ ?_
    refine cvm (-n / 4294967296) rfl cvU64U32 (by omega) ?_
    refine bl2 rfl rfl slLs zvU32 ?_
    refine ca rfl (h := r02_made (by omega)) (hn := ?_)
    refine st rfl rfl rfl tyZ rfl ?_
    refine ⟨by kernel_rfl, ?_⟩
    refine nx (sl 2 rfl sn) (el 10 rfl en) ?_
    refine tri_ret ?_
    repeat (first | refine pn_thenr ?_ | refine pn_blkr ?_)
    exact ret1 hcx rfl (rv_cell (c' := cx) (n := 0) rfl rfl tyZ rfl) (z_cast (intv_abs_neg hc) (Nat.le_refl _)) en
  · refine tri_as 3 (Z := T.c (.int .u64 n)) rfl (ci (by omega)) ?_
    refine tri_skip ?_
    refine nx (sl 0 rfl (sl 2 rfl (sl 3 rfl sn))) (el 10 rfl en) ?_
    refine tri_seq ?_
    obtain ⟨hL1, hL2⟩ := two_limbs (u := n) (N := n.natAbs) (by omega) (by omega); have hL3 : [n % 4294967296, n / 4294967296].length ≤ 2 := Nat.le_refl _
    refine tri_reg mixed hcx ?_ _ _
    refine mv rfl ?_
    refine clt rfl rfl (decide_eq_false (by omega)) ?_
    refine mv rfl ?_
    refine cvm _ rfl cvU64U32 rfl ?_
    refine mv rfl ?_
    refine shR (s := 32) (n / 4294967296) rfl rfl rfl ⟨by omega, by omega, by decide⟩ ?_
    refine cvm (n / 4294967296) rfl cvU64U32 (by omega) ?_
    refine bl2 rfl rfl slLs zvU32 ?_
    refine ca rfl (h := r02_made (by omega)) (hn := ?_)
    refine st rfl rfl rfl tyZ rfl ?_
    refine ⟨by kernel_rfl, ?_⟩
    refine nx (sl 2 rfl sn) (el 10 rfl en) ?_
    refine tri_ret ?_
    repeat (first | refine pn_thenr ?_ | refine pn_blkr ?_)
    exact ret1 hcx rfl (rv_cell (c' := cx) (n := 0) rfl rfl tyZ rfl) (z_cast (intv_abs_pos hc) (Nat.le_refl _)) en

theorem r03_one  : Fn Tryz.prog 55 [] [] [] [] (T.Z 1 2) := by
  refine fn_of Tryz.func55 rfl (by show 0 ≤ 2; decide) fun cx hcx => ?_
  refine tri_sub sn en ?_
  refine tri_seq ?_
  refine tri_reg mixed hcx ?_ _ _
  refine nw 10 zeZ ?_
  refine ⟨by kernel_rfl, ?_⟩
  refine nx (sl 0 rfl sn) (el 10 rfl en) ?_
  refine tri_seq ?_
  refine tri_reg mixed hcx ?_ _ _
  refine ca rfl (h := r02_Of (by omega) (by omega)) (hn := ?_)
  refine st rfl rfl rfl tyZ rfl ?_
  refine ⟨by kernel_rfl, ?_⟩
  refine nx (sl 0 rfl sn) (el 10 rfl en) ?_
  refine tri_ret ?_
  repeat (first | refine pn_thenr ?_ | refine pn_blkr ?_)
  exact ret1 hcx rfl (rv_cell (c' := cx) (n := 0) rfl rfl tyZ rfl) (.refl _) en

theorem q_mk {q : Rat} {x y : Int} {k l K : Nat} (h1 : q.num = x) (h2 : (q.den : Int) = y) (hk : k ≤ K) (hl : l ≤ K) : (T.st [T.Z x k, T.Z y l]).le (T.Q q K) := by
  subst h1; subst h2
  exact st_le (l := [T.Z q.num k, T.Z (q.den : Int) l]) (l' := [T.Z q.num K, T.Z (q.den : Int) K]) ⟨z_mono hk, z_mono hl, trivial⟩
theorem q_st {q : Rat} {x y : Int} {s : Bool} {k K : Nat} (h1 : q.num = x) (h2 : (q.den : Int) = y) (hk : k ≤ K) (hs : s = decide (y < 0)) (hl : zl y ≤ K) : (T.st [T.Z x k, T.st [T.c (.bool s), T.l cU (dig y.natAbs)]]).le (T.Q q K) := by
  subst h1; subst h2
  exact st_le (l := [T.Z q.num k, T.st [T.c (.bool s), T.l cU (dig (q.den : Int).natAbs)]]) (l' := [T.Z q.num K, T.Z (q.den : Int) K]) ⟨z_mono hk, z_of hs hl, trivial⟩

theorem r03_Of {z : Int} {k : Nat} (hk : k ≤ 17592186044416) : Fn Tryz.prog 13 [T.Zi z k] [] [] [] (T.Q (z : Rat) (k + 2)) := by
  refine fn_of Tryz.func13 rfl (by show 1 ≤ 7; decide) fun cx hcx => ?_
  refine tri_sub (sl 0 rfl sn) en ?_
  refine tri_seq ?_
  refine tri_reg mixed hcx ?_ _ _
  refine bx 10 rfl ?_
  refine nw 11 zeQ ?_
  refine ⟨by kernel_rfl, ?_⟩
  refine nx (sl 1 rfl (sl 2 rfl sn)) (el 10 rfl (el 11 rfl en)) ?_
  refine tri_seq ?_
  refine tri_reg mixed hcx ?_ _ _
  refine ld rfl rfl tyZ rfl ?_
  refine ca rfl (h := r02_Norm (by omega)) (hn := ?_)
  refine ca rfl (h := r03_one) (hn := ?_)
  refine bu stQ rfl ?_
  refine st rfl rfl rfl tyQ rfl ?_
  refine ⟨by kernel_rfl, ?_⟩
  refine nx (sl 2 rfl sn) (el 10 rfl (el 11 rfl en)) ?_
  refine tri_ret ?_
  repeat (first | refine pn_thenr ?_ | refine pn_blkr ?_)
  exact ret1 hcx rfl (rv_cell (c' := cx) (n := 0) rfl rfl tyQ rfl) (q_mk (rat_whole z).1 (rat_whole z).2 (by omega) (by omega)) en

theorem sg_lt {z : Int} : sg z < 0 ↔ z < 0 := by unfold sg sgnc; split <;> (try split) <;> omega
theorem div_abs {x : Int} {g : Nat} (h : (g : Int) ∣ x) : iv (decide (x < 0)) (val (dig (x.natAbs / g))) = x / g := by
  obtain ⟨q, rfl⟩ := h
  rw [dig_val]
  rcases Nat.eq_zero_or_pos g with h | h
  · subst h; simp [iv]
  · rw [Int.natAbs_mul, Int.natAbs_natCast, Nat.mul_div_cancel_left _ h, Int.mul_ediv_cancel_left _ (by omega)]
    unfold iv
    have : ((g : Int) * q < 0) ↔ q < 0 := ⟨fun h1 => Int.not_le.1 fun h2 => by have := Int.mul_nonneg (show (0 : Int) ≤ g by omega) h2; omega, fun h1 => Int.mul_neg_of_pos_of_neg (by omega) h1⟩
    by_cases hq : q < 0
    · rw [decide_eq_true (this.2 hq)]; simp; omega
    · rw [decide_eq_false (fun h => hq (this.1 h))]; simp; omega
theorem div_abs2 {y : Int} {g : Nat} (hy : 0 < y) (h : (g : Int) ∣ y) : y.natAbs / g = (y / (g : Int)).natAbs ∧ 0 ≤ y / (g : Int) := by
  have := div_abs h
  rw [decide_eq_false (by omega), dig_val] at this
  simp only [iv] at this
  have e : ((y.natAbs / g : Nat) : Int) = y / (g : Int) := by simpa using this
  exact ⟨by rw [← e, Int.natAbs_natCast], by rw [← e]; exact Int.natCast_nonneg _⟩
instance (z : Int) : IsZ (T.st [T.c (.bool (decide (z < 0))), T.l cU (dig z.natAbs)]) z (zl z) := ⟨(z_of rfl (Nat.le_refl _)).trans (z_zi z _), rfl⟩

section
variable {P : Program} {x : Code} {Q : Exit → Act → World → Prop} {ctx : Ctx} {n : Nat} {g : List (Nat × T)} {E : List (Nat × Option Ent)}
/-- What a whole number's form says of its bound. -/
theorem tri_zb (t : Nat) {z : Int} {k : Nat} (ht : lk g t = some (T.Zi z k)) (h : zl z ≤ k → Tri P x Q ctx n g E) : Tri P x Q ctx n g E := fun a w hS => by
  have hS' := hS
  obtain ⟨β, u, F, h1, h2, h3, _⟩ := hS'
  obtain ⟨v, _, i, ⟨k1, k2, k3⟩, _⟩ := h3 t _ ht
  obtain ⟨M, hM⟩ := Int.eq_ofNat_of_zero_le (val_nonneg k1)
  refine h ?_ a w hS
  rw [k2, hM]
  exact z_bd (s := i.1) k1 hM k3
end

theorem r03_Make {a b : Int} {k l : Nat} (hb : b ≠ 0) (hk : k ≤ 1099511627776) (hl : l ≤ 1099511627776) : Fn Tryz.prog 127 [T.Zi a k, T.Zi b l] [] [] [] (T.Q ((a : Rat) / b) (k + l)) := by
  refine fn_of Tryz.func127 rfl (by show 2 ≤ 54; decide) fun cx hcx => ?_
  refine tri_sub (sl 0 rfl (sl 1 rfl sn)) en ?_
  refine tri_zb 0 rfl fun hza => ?_
  refine tri_zb 1 rfl fun hzb => ?_
  refine tri_seq ?_
  refine tri_reg mixed hcx ?_ _ _
  refine bx 10 rfl ?_
  refine bx 11 rfl ?_
  refine nw 12 zeQ ?_
  refine ⟨by kernel_rfl, ?_⟩
  refine nx (sl 2 rfl (sl 3 rfl (sl 4 rfl sn))) (el 10 rfl (el 11 rfl (el 12 rfl en))) ?_
  refine tri_seq ?_
  refine tri_reg mixed hcx ?_ _ _
  refine ld rfl rfl tyZ rfl ?_
  refine ca rfl (h := r02_Norm (by omega)) (hn := ?_)
  refine nw 112 zeZ ?_
  refine sts rfl rfl rfl tyZ rfl ?_
  refine ⟨by kernel_rfl, ?_⟩
  refine nx (sl 3 rfl (sl 4 rfl (sl 5 rfl sn))) (el 10 rfl (el 11 rfl (el 12 rfl (el 112 rfl en)))) ?_
  refine tri_seq ?_
  refine tri_reg mixed hcx ?_ _ _
  refine ld rfl rfl tyZ rfl ?_
  refine ca rfl (h := r02_Norm (by omega)) (hn := ?_)
  refine nw 212 zeZ ?_
  refine sts rfl rfl rfl tyZ rfl ?_
  refine ⟨by kernel_rfl, ?_⟩
  refine nx (sl 4 rfl (sl 5 rfl (sl 6 rfl sn))) (el 10 rfl (el 11 rfl (el 12 rfl (el 112 rfl (el 212 rfl en))))) ?_
  refine tri_join (ι := Int × Int) (fun (x, y) => [(4, T.p 12 0), (5, T.p 112 0), (6, T.p 212 0)]) (fun (x, y) => [(12, some (Ent.box 34 [T.c (.bool false), T.c (.slice none 0 0), T.c (.bool false), T.c (.slice none 0 0)])), (112, some (Ent.box 32 [T.c (.bool (decide (x < 0))), T.l cU (dig (x).natAbs)])), (212, some (Ent.box 32 [T.c (.bool (decide (y < 0))), T.l cU (dig (y).natAbs)]))]) (fun (x, y) => (0 < y) ∧ ((x : Rat) / y = (a : Rat) / b) ∧ (zl x ≤ k) ∧ (zl y ≤ l)) ?_ ?_
  · refine tri_seq ?_
    refine tri_reg mixed hcx ?_ _ _
    refine ld rfl rfl tyZ rfl ?_
    refine ca rfl (h := r02_Sign (by omega)) (hn := ?_)
    refine clt rfl rfl rfl ?_
    refine ⟨by kernel_rfl, ?_⟩
    refine nx (sl 4 rfl (sl 5 rfl (sl 6 rfl (sl 20 rfl sn)))) (el 10 rfl (el 11 rfl (el 12 rfl (el 112 rfl (el 212 rfl en))))) ?_
    refine tri_if rfl (fun hc => ?_) (fun hc => ?_)
    · have hb0 := sg_lt.1 hc
      refine tri_seq ?_
      refine tri_reg mixed hcx ?_ _ _
      refine ld rfl rfl tyZ rfl ?_
      refine ca rfl (h := r02_Neg (by omega)) (hn := ?_)
      refine sts rfl rfl rfl tyZ rfl ?_
      refine ⟨by kernel_rfl, ?_⟩
      refine nx (sl 4 rfl (sl 5 rfl (sl 6 rfl sn))) (el 10 rfl (el 11 rfl (el 12 rfl (el 112 rfl (el 212 rfl en))))) ?_
      refine tri_reg mixed hcx ?_ _ _
      refine ld rfl rfl tyZ rfl ?_
      refine ca rfl (h := r02_Neg (by omega)) (hn := ?_)
      refine sts rfl rfl rfl tyZ rfl ?_
      refine ⟨by kernel_rfl, ?_⟩
      first | exact pn_join (-a, -b) ⟨by omega, rat_neg _ _, zl_neg hza, zl_neg hzb⟩ (sl 4 rfl (sl 5 rfl (sl 6 rfl sn))) (el 12 rfl (el 112 rfl (el 212 rfl en))) | exact pn_join (a, b) ⟨hb0, rfl, hza, hzb⟩ (sl 4 rfl (sl 5 rfl (sl 6 rfl sn))) (el 12 rfl (el 112 rfl (el 212 rfl en)))
    · have hb0 : 0 < b := by have : ¬ b < 0 := fun h => hc (sg_lt.2 h); omega
      refine tri_skip ?_
      first | exact pn_join (-a, -b) ⟨by omega, rat_neg _ _, zl_neg hza, zl_neg hzb⟩ (sl 4 rfl (sl 5 rfl (sl 6 rfl sn))) (el 12 rfl (el 112 rfl (el 212 rfl en))) | exact pn_join (a, b) ⟨hb0, rfl, hza, hzb⟩ (sl 4 rfl (sl 5 rfl (sl 6 rfl sn))) (el 12 rfl (el 112 rfl (el 212 rfl en)))
  · rintro ⟨x, y⟩ ⟨hy, he, hzx, hzy⟩
    refine tri_sub (sl 4 rfl (sl 5 rfl (sl 6 rfl sn))) (el 12 rfl (el 112 rfl (el 212 rfl en))) ?_
    have hlx : lim x.natAbs ≤ k := hzx; have hly : lim y.natAbs ≤ l := hzy
    have hg0 : 0 < Nat.gcd x.natAbs y.natAbs := Nat.gcd_pos_of_pos_right _ (by omega)
    have hlg := lim_gcd hlx hly; have hmx : max k l ≤ 1099511627776 := Nat.max_le.2 ⟨hk, hl⟩
    have hdx : ((Nat.gcd x.natAbs y.natAbs : Nat) : Int) ∣ x := Int.gcd_dvd_left ..; have hdy : ((Nat.gcd x.natAbs y.natAbs : Nat) : Int) ∣ y := Int.gcd_dvd_right ..
    have hqx := zi_of (s := decide (x < 0)) (dig_lim (x.natAbs / Nat.gcd x.natAbs y.natAbs)) (div_abs hdx).symm (show (dig _).length ≤ k from Nat.le_trans (lim_mono (Nat.div_le_self _ _)) hlx)
    obtain ⟨hY1, hY2⟩ := div_abs2 hy hdy; have hrm := rat_made (x := x) hy; rw [he] at hrm
    refine tri_seq ?_
    refine tri_reg mixed hcx ?_ _ _
    refine fa rfl fMag 1 ?_
    refine ld rfl rfl tyLs rfl ?_
    refine fa rfl fMag 1 ?_
    refine ld rfl rfl tyLs rfl ?_
    refine ca rfl (h := r01_Gcd (by omega) (by omega)) (hn := ?_)
    refine asg rfl ?_
    refine ⟨by kernel_rfl, ?_⟩
    refine nx (sl 4 rfl (sl 5 rfl (sl 6 rfl (sl 7 rfl sn)))) (el 12 rfl (el 112 rfl (el 212 rfl en))) ?_
    refine tri_seq ?_
    refine tri_reg mixed hcx ?_ _ _
    refine fa rfl fMag 1 ?_
    refine ld rfl rfl tyLs rfl ?_
    refine mv rfl ?_
    refine ca rfl (h := r01_Div (by omega) (by omega) (by omega) (by omega)) (hn := ?_)
    refine mv rfl ?_
    refine ex rfl rfl ?_
    refine ex rfl rfl ?_
    refine ex rfl rfl ?_
    refine asg rfl ?_
    refine asg rfl ?_
    refine asg rfl ?_
    refine ⟨by kernel_rfl, ?_⟩
    refine nx (sl 4 rfl (sl 5 rfl (sl 6 rfl (sl 7 rfl (sl 8 rfl sn))))) (el 12 rfl (el 112 rfl (el 212 rfl en))) ?_
    refine tri_seq ?_
    refine tri_reg mixed hcx ?_ _ _
    refine fa rfl fMag 1 ?_
    refine ld rfl rfl tyLs rfl ?_
    refine mv rfl ?_
    refine ca rfl (h := r01_Div (by omega) (by omega) (by omega) (by omega)) (hn := ?_)
    refine mv rfl ?_
    refine ex rfl rfl ?_
    refine ex rfl rfl ?_
    refine ex rfl rfl ?_
    refine asg rfl ?_
    refine asg rfl ?_
    refine asg rfl ?_
    refine ⟨by kernel_rfl, ?_⟩
    refine nx (sl 4 rfl (sl 5 rfl (sl 8 rfl (sl 11 rfl sn)))) (el 12 rfl (el 112 rfl (el 212 rfl en))) ?_
    refine tri_seq ?_
    refine tri_reg mixed hcx ?_ _ _
    refine fa rfl fNeg 0 ?_
    refine ld rfl rfl tyB rfl ?_
    refine mv rfl ?_
    refine bu stZ rfl ?_
    refine ca rfl (h := r02_Norm (by omega)) (hn := ?_)
    refine mv rfl ?_
    refine bu stZ rfl ?_
    refine bu stQ rfl ?_
    refine st rfl rfl rfl tyQ rfl ?_
    refine ⟨by kernel_rfl, ?_⟩
    refine nx (sl 4 rfl sn) (el 12 rfl (el 112 rfl (el 212 rfl en))) ?_
    refine tri_ret ?_
    repeat (first | refine pn_thenr ?_ | refine pn_blkr ?_)
    exact ret1 hcx rfl (rv_cell (c' := cx) (n := 0) rfl rfl tyQ rfl) (by rw [hY1]; exact q_st hrm.1 hrm.2 (by omega) (decide_eq_false (Int.not_lt.2 hY2)).symm (Nat.le_trans (zl_div _ hzy) (by omega))) en
end Go.Proofs.YtekghdfbhbhigaaGreat.V
/- Contracts: fractions, data of rows. -/
set_option linter.unusedVariables false
set_option linter.unusedSimpArgs false
set_option maxRecDepth 100000
namespace Go.Proofs.YtekghdfbhbhigaaGreat.V
open Go.RowKit Mt Nml
theorem sg_ne {z : Int} (h : z ≠ 0) : sg z ≠ 0 := fun e => h (sg_eq_zero.1 e)

theorem rat_mk {a b : Int} {k l : Nat} (hb : b ≠ 0) (hk : k ≤ 1099511627776) (hl : l ≤ 1099511627776) : Fn Tryz.prog 142 [T.Zi a k, T.Zi b l] [] [] [] (T.Q ((a : Rat) / b) (k + l)) := by
  refine fn_of Tryz.func142 rfl (by show 2 ≤ 35; decide) fun cx hcx => ?_
  refine tri_sub (sl 0 rfl (sl 1 rfl sn)) en ?_
  refine tri_seq ?_
  refine tri_reg mixed hcx ?_ _ _
  refine bx 10 rfl ?_
  refine bx 11 rfl ?_
  refine nw 12 zeQ ?_
  refine ⟨by kernel_rfl, ?_⟩
  refine nx (sl 2 rfl (sl 3 rfl (sl 4 rfl sn))) (el 10 rfl (el 11 rfl (el 12 rfl en))) ?_
  refine tri_seq ?_
  refine tri_seq ?_
  refine tri_reg mixed hcx ?_ _ _
  refine ld rfl rfl tyZ rfl ?_
  refine ca rfl (h := zi_Sign (by omega)) (hn := ?_)
  refine clt rfl rfl rfl ?_
  refine ⟨by kernel_rfl, ?_⟩
  refine nx (sl 2 rfl (sl 3 rfl (sl 4 rfl (sl 12 rfl sn)))) (el 10 rfl (el 11 rfl (el 12 rfl en))) ?_
  refine tri_if rfl (fun hc => ?_) (fun hc => ?_)
  · have hb0 := sg_lt.1 hc
    have hgz : ((Int.gcd (-a) (-b) : Nat) : Int) ≠ 0 := gcd_nz (by omega)
    have hdx : ((Int.gcd (-a) (-b) : Nat) : Int) ∣ -a := Int.gcd_dvd_left ..; have hdy : ((Int.gcd (-a) (-b) : Nat) : Int) ∣ -b := Int.gcd_dvd_right ..; have hmx : max k l ≤ 1099511627776 := Nat.max_le.2 ⟨hk, hl⟩
    have hrm := rat_made (x := -a) (y := -b) (by omega); rw [rat_neg] at hrm
    refine tri_reg mixed hcx ?_ _ _
    refine ld rfl rfl tyZ rfl ?_
    refine ca rfl (h := zi_Neg (by omega)) (hn := ?_)
    refine ld rfl rfl tyZ rfl ?_
    refine ca rfl (h := zi_Neg (by omega)) (hn := ?_)
    refine st rfl rfl rfl tyZ rfl ?_
    refine st rfl rfl rfl tyZ rfl ?_
    refine ⟨by kernel_rfl, ?_⟩
    refine nx (sl 2 rfl (sl 3 rfl (sl 4 rfl sn))) (el 10 rfl (el 11 rfl (el 12 rfl en))) ?_
    refine tri_seq ?_
    refine tri_reg mixed hcx ?_ _ _
    refine ld rfl rfl tyZ rfl ?_
    refine ld rfl rfl tyZ rfl ?_
    refine ca rfl (h := zi_Gcd (by omega) (by omega)) (hn := ?_)
    refine nw 313 zeZ ?_
    refine st rfl rfl rfl tyZ rfl ?_
    refine ⟨by kernel_rfl, ?_⟩
    refine nx (sl 2 rfl (sl 3 rfl (sl 4 rfl (sl 5 rfl sn)))) (el 10 rfl (el 11 rfl (el 12 rfl (el 313 rfl en)))) ?_
    refine tri_seq ?_
    refine tri_reg mixed hcx ?_ _ _
    refine ld rfl rfl tyZ rfl ?_
    refine ld rfl rfl tyZ rfl ?_
    refine ca rfl (h := zi_Exact (by assumption) (by assumption) (by omega) (by omega)) (hn := ?_)
    refine mv rfl ?_
    refine ex rfl rfl ?_
    refine ex rfl rfl ?_
    refine nw 416 zeZ ?_
    refine st rfl rfl rfl tyZ rfl ?_
    refine asg rfl ?_
    refine ⟨by kernel_rfl, ?_⟩
    refine nx (sl 3 rfl (sl 4 rfl (sl 5 rfl (sl 6 rfl sn)))) (el 10 rfl (el 11 rfl (el 12 rfl (el 313 rfl (el 416 rfl en))))) ?_
    refine tri_seq ?_
    refine tri_reg mixed hcx ?_ _ _
    refine ld rfl rfl tyZ rfl ?_
    refine ld rfl rfl tyZ rfl ?_
    refine ca rfl (h := zi_Exact (by assumption) (by assumption) (by omega) (by omega)) (hn := ?_)
    refine mv rfl ?_
    refine ex rfl rfl ?_
    refine ex rfl rfl ?_
    refine nw 516 zeZ ?_
    refine st rfl rfl rfl tyZ rfl ?_
    refine asg rfl ?_
    refine ⟨by kernel_rfl, ?_⟩
    refine nx (sl 4 rfl (sl 6 rfl (sl 8 rfl sn))) (el 10 rfl (el 11 rfl (el 12 rfl (el 313 rfl (el 416 rfl (el 516 rfl en)))))) ?_
    refine tri_seq ?_
    refine tri_reg mixed hcx ?_ _ _
    refine ld rfl rfl tyZ rfl ?_
    refine ld rfl rfl tyZ rfl ?_
    refine bu stQ rfl ?_
    refine st rfl rfl rfl tyQ rfl ?_
    refine ⟨by kernel_rfl, ?_⟩
    refine nx (sl 4 rfl sn) (el 10 rfl (el 11 rfl (el 12 rfl (el 313 rfl (el 416 rfl (el 516 rfl en)))))) ?_
    refine tri_ret ?_
    repeat (first | refine pn_thenr ?_ | refine pn_blkr ?_)
    exact ret1 hcx rfl (rv_cell (c' := cx) (n := 0) rfl rfl tyQ rfl) (q_mk hrm.1 hrm.2 (by omega) (by omega)) en
  · have hb0 : 0 < b := by have : ¬ b < 0 := fun h => hc (sg_lt.2 h); omega
    have hgz : ((Int.gcd (a) (b) : Nat) : Int) ≠ 0 := gcd_nz (by omega)
    have hdx : ((Int.gcd (a) (b) : Nat) : Int) ∣ a := Int.gcd_dvd_left ..; have hdy : ((Int.gcd (a) (b) : Nat) : Int) ∣ b := Int.gcd_dvd_right ..; have hmx : max k l ≤ 1099511627776 := Nat.max_le.2 ⟨hk, hl⟩
    have hrm := rat_made (x := a) (y := b) (by omega)
    refine tri_skip ?_
    refine nx (sl 2 rfl (sl 3 rfl (sl 4 rfl sn))) (el 10 rfl (el 11 rfl (el 12 rfl en))) ?_
    refine tri_seq ?_
    refine tri_reg mixed hcx ?_ _ _
    refine ld rfl rfl tyZ rfl ?_
    refine ld rfl rfl tyZ rfl ?_
    refine ca rfl (h := zi_Gcd (by omega) (by omega)) (hn := ?_)
    refine nw 313 zeZ ?_
    refine st rfl rfl rfl tyZ rfl ?_
    refine ⟨by kernel_rfl, ?_⟩
    refine nx (sl 2 rfl (sl 3 rfl (sl 4 rfl (sl 5 rfl sn)))) (el 10 rfl (el 11 rfl (el 12 rfl (el 313 rfl en)))) ?_
    refine tri_seq ?_
    refine tri_reg mixed hcx ?_ _ _
    refine ld rfl rfl tyZ rfl ?_
    refine ld rfl rfl tyZ rfl ?_
    refine ca rfl (h := zi_Exact (by assumption) (by assumption) (by omega) (by omega)) (hn := ?_)
    refine mv rfl ?_
    refine ex rfl rfl ?_
    refine ex rfl rfl ?_
    refine nw 416 zeZ ?_
    refine st rfl rfl rfl tyZ rfl ?_
    refine asg rfl ?_
    refine ⟨by kernel_rfl, ?_⟩
    refine nx (sl 3 rfl (sl 4 rfl (sl 5 rfl (sl 6 rfl sn)))) (el 10 rfl (el 11 rfl (el 12 rfl (el 313 rfl (el 416 rfl en))))) ?_
    refine tri_seq ?_
    refine tri_reg mixed hcx ?_ _ _
    refine ld rfl rfl tyZ rfl ?_
    refine ld rfl rfl tyZ rfl ?_
    refine ca rfl (h := zi_Exact (by assumption) (by assumption) (by omega) (by omega)) (hn := ?_)
    refine mv rfl ?_
    refine ex rfl rfl ?_
    refine ex rfl rfl ?_
    refine nw 516 zeZ ?_
    refine st rfl rfl rfl tyZ rfl ?_
    refine asg rfl ?_
    refine ⟨by kernel_rfl, ?_⟩
    refine nx (sl 4 rfl (sl 6 rfl (sl 8 rfl sn))) (el 10 rfl (el 11 rfl (el 12 rfl (el 313 rfl (el 416 rfl (el 516 rfl en)))))) ?_
    refine tri_seq ?_
    refine tri_reg mixed hcx ?_ _ _
    refine ld rfl rfl tyZ rfl ?_
    refine ld rfl rfl tyZ rfl ?_
    refine bu stQ rfl ?_
    refine st rfl rfl rfl tyQ rfl ?_
    refine ⟨by kernel_rfl, ?_⟩
    refine nx (sl 4 rfl sn) (el 10 rfl (el 11 rfl (el 12 rfl (el 313 rfl (el 416 rfl (el 516 rfl en)))))) ?_
    refine tri_ret ?_
    repeat (first | refine pn_thenr ?_ | refine pn_blkr ?_)
    exact ret1 hcx rfl (rv_cell (c' := cx) (n := 0) rfl rfl tyQ rfl) (q_mk hrm.1 hrm.2 (by omega) (by omega)) en

theorem rat_Make {a b : Int} {k l : Nat} (hb : b ≠ 0) (hk : k ≤ 1099511627776) (hl : l ≤ 1099511627776) : Fn Tryz.prog 171 [T.Zi a k, T.Zi b l] [] [] [] (T.tup [T.Q ((a : Rat) / b) (k + l), T.c (.int .i64 0)]) := by
  refine fn_of Tryz.func171 rfl (by show 2 ≤ 13; decide) fun cx hcx => ?_
  refine tri_sub (sl 0 rfl (sl 1 rfl sn)) en ?_
  have hsb := sg_ne hb
  refine tri_seq ?_
  refine tri_reg mixed hcx ?_ _ _
  refine bx 10 rfl ?_
  refine bx 11 rfl ?_
  refine nw 12 zeQ ?_
  refine asg rfl ?_
  refine ⟨by kernel_rfl, ?_⟩
  refine nx (sl 2 rfl (sl 3 rfl (sl 4 rfl sn))) (el 10 rfl (el 11 rfl (el 12 rfl en))) ?_
  refine tri_seq ?_
  refine tri_seq ?_
  refine tri_reg mixed hcx ?_ _ _
  refine ld rfl rfl tyZ rfl ?_
  refine ca rfl (h := zi_Sign (by omega)) (hn := ?_)
  refine ceq rfl rfl (decide_eq_false (by omega)) ?_
  refine ⟨by kernel_rfl, ?_⟩
  refine nx (sl 2 rfl (sl 3 rfl (sl 4 rfl (sl 8 rfl sn)))) (el 10 rfl (el 11 rfl (el 12 rfl en))) ?_
  refine tri_false rfl rfl ?_
  refine tri_skip ?_
  refine nx (sl 2 rfl (sl 3 rfl (sl 4 rfl sn))) (el 10 rfl (el 11 rfl (el 12 rfl en))) ?_
  refine tri_seq ?_
  refine tri_reg mixed hcx ?_ _ _
  refine ld rfl rfl tyZ rfl ?_
  refine ld rfl rfl tyZ rfl ?_
  refine ca rfl (h := rat_mk (by assumption) (by omega) (by omega)) (hn := ?_)
  refine st rfl rfl rfl tyQ rfl ?_
  refine asg rfl ?_
  refine ⟨by kernel_rfl, ?_⟩
  refine nx (sl 4 rfl (sl 5 rfl sn)) (el 10 rfl (el 11 rfl (el 12 rfl en))) ?_
  refine tri_ret ?_
  repeat (first | refine pn_thenr ?_ | refine pn_blkr ?_)
  exact ret2 hcx rfl (rv_cell (c' := cx) (n := 0) rfl rfl tyQ rfl) (rv_tmp rfl) (.refl _) en

theorem rat_Of {z : Int} {k : Nat} (hk : k ≤ 17592186044416) : Fn Tryz.prog 114 [T.Zi z k] [] [] [] (T.Q (z : Rat) (k + 2)) := by
  refine fn_of Tryz.func114 rfl (by show 1 ≤ 7; decide) fun cx hcx => ?_
  refine tri_sub (sl 0 rfl sn) en ?_
  refine tri_seq ?_
  refine tri_reg mixed hcx ?_ _ _
  refine bx 10 rfl ?_
  refine nw 11 zeQ ?_
  refine ⟨by kernel_rfl, ?_⟩
  refine nx (sl 1 rfl (sl 2 rfl sn)) (el 10 rfl (el 11 rfl en)) ?_
  refine tri_seq ?_
  refine tri_reg mixed hcx ?_ _ _
  refine ld rfl rfl tyZ rfl ?_
  refine ca rfl (h := zi_Form (by omega)) (hn := ?_)
  refine ca rfl (h := zi_Of (by omega) (by omega)) (hn := ?_)
  refine bu stQ rfl ?_
  refine st rfl rfl rfl tyQ rfl ?_
  refine ⟨by kernel_rfl, ?_⟩
  refine nx (sl 2 rfl sn) (el 10 rfl (el 11 rfl en)) ?_
  refine tri_ret ?_
  repeat (first | refine pn_thenr ?_ | refine pn_blkr ?_)
  exact ret1 hcx rfl (rv_cell (c' := cx) (n := 0) rfl rfl tyQ rfl) (q_mk (rat_whole z).1 (rat_whole z).2 (by omega) (by omega)) en

instance {α : Type} (c : Cod α) (l : List α) : IsS ((cL c).X l) l.length := inferInstanceAs (IsS (T.l c l) l.length)
instance {α : Type} (c : Cod α) (l : List α) : IsI ((cL c).X l) c l := inferInstanceAs (IsI (T.l c l) c l)
instance {α : Type} (c : Cod α) (l : List α) : IsL ((cL c).X l) c l := inferInstanceAs (IsL (T.l c l) c l)
/-- Data of rows, of the right shape. -/
def GoodP (D : List Int) (L : List (List Int)) : Prop := 0 < L.length ∧ D.length = L.length + 1 ∧ D.getD 0 0 = 1 ∧ ∀ i, i < L.length → (L.getD i []).length = i ∧ 0 < D.getD (i + 1) 0
theorem sgnc_eq0 {a b : Int} : sgnc a b = 0 ↔ a = b := by unfold sgnc; split <;> (try split) <;> omega
theorem sg_le {z : Int} : sg z ≤ 0 ↔ z ≤ 0 := by unfold sg sgnc; split <;> (try split) <;> omega
theorem b_no {q : Bool} {p : Prop} (hq : q = true ↔ p) (h : ¬ p) : (T.c (.bool false)).le (T.c (.bool q)) := by
  cases q with
  | false => exact .refl _
  | true => exact absurd (hq.1 rfl) h
theorem b_yes {q : Bool} {p : Prop} (hq : q = true ↔ p) (h : p) : (T.c (.bool true)).le (T.c (.bool q)) := by rw [hq.2 h]; exact .refl _
theorem g_good {D : List Int} {L : List (List Int)} {k : Nat} {q : Bool} (hq : q = true ↔ GoodP D L) (hk : k ≤ 1073741824) (hLl : L.length ≤ 1073741824) (hDl : D.length ≤ 1073741824) : Fn Tryz.prog 170 [T.G D L k] [] [] [] (T.c (.bool q)) := by
  refine fn_of Tryz.func170 rfl (by show 1 ≤ 51; decide) fun cx hcx => ?_
  refine tri_sub (sl 0 rfl sn) en ?_
  refine tri_seq ?_
  refine tri_reg mixed hcx ?_ _ _
  refine bxs 10 rfl ?_
  refine asg rfl ?_
  refine ⟨by kernel_rfl, ?_⟩
  refine nx (sl 1 rfl sn) (el 10 rfl en) ?_
  refine tri_seq ?_
  refine tri_seq ?_
  rcases Nat.eq_zero_or_pos L.length with hL | hL; rotate_left; rcases Nat.decEq D.length (L.length + 1) with hD | hD; rotate_left; rotate_left
  · refine tri_reg mixed hcx ?_ _ _
    refine fa rfl fL 1 ?_
    refine ld rfl rfl tyZss rfl ?_
    refine ln slZss rfl ?_
    refine ceq rfl rfl (decide_eq_true (by omega)) ?_
    refine mv rfl ?_
    refine j_off rfl rfl rfl rfl ?_
    refine j_off rfl rfl rfl rfl ?_
    refine j_off rfl rfl rfl rfl ?_
    refine j_off rfl rfl rfl rfl ?_
    refine j_off rfl rfl rfl rfl ?_
    refine j_off rfl rfl rfl rfl ?_
    refine j_off rfl rfl rfl rfl ?_
    refine j_off rfl rfl rfl rfl ?_
    refine pk rfl rfl ?_
    refine mv rfl ?_
    refine j_off rfl rfl rfl rfl ?_
    refine j_off rfl rfl rfl rfl ?_
    refine j_off rfl rfl rfl rfl ?_
    refine j_off rfl rfl rfl rfl ?_
    refine j_off rfl rfl rfl rfl ?_
    refine j_off rfl rfl rfl rfl ?_
    refine j_off rfl rfl rfl rfl ?_
    refine pk rfl rfl ?_
    refine ⟨by kernel_rfl, ?_⟩
    refine nx (sl 1 rfl (sl 27 rfl sn)) (el 10 rfl en) ?_
    refine tri_true rfl rfl ?_
    refine tri_seq ?_
    refine tri_reg mixed hcx ?_ _ _
    refine asg rfl ?_
    refine ⟨by kernel_rfl, ?_⟩
    refine nx (sl 2 rfl sn) (el 10 rfl en) ?_
    refine tri_ret ?_
    repeat (first | refine pn_thenr ?_ | refine pn_blkr ?_)
    exact ret1 hcx rfl (rv_tmp rfl) (b_no hq (fun h => by have := h.1; omega)) en
  · refine tri_reg mixed hcx ?_ _ _
    refine fa rfl fL 1 ?_
    refine ld rfl rfl tyZss rfl ?_
    refine ln slZss rfl ?_
    refine ceq rfl rfl (decide_eq_false (by omega)) ?_
    refine mv rfl ?_
    refine fa rfl fD 0 ?_ (hg := gd1)
    refine ld rfl rfl tyZs rfl ?_ (hg := gd1)
    refine ln slZs rfl ?_ (hg := gd1)
    refine fa rfl fL 1 ?_ (hg := gd1)
    refine ld rfl rfl tyZss rfl ?_ (hg := gd1)
    refine ln slZss rfl ?_ (hg := gd1)
    refine ad _ rfl rfl rfl ⟨rfl, by omega, by omega⟩ ?_ (hg := gd1)
    refine cne rfl rfl (decide_eq_true (by omega)) ?_ (hg := gd1)
    refine pk rfl rfl ?_
    refine mv rfl ?_
    refine j_off rfl rfl rfl rfl ?_
    refine j_off rfl rfl rfl rfl ?_
    refine j_off rfl rfl rfl rfl ?_
    refine j_off rfl rfl rfl rfl ?_
    refine j_off rfl rfl rfl rfl ?_
    refine j_off rfl rfl rfl rfl ?_
    refine j_off rfl rfl rfl rfl ?_
    refine pk rfl rfl ?_
    refine ⟨by kernel_rfl, ?_⟩
    refine nx (sl 1 rfl (sl 27 rfl sn)) (el 10 rfl en) ?_
    refine tri_true rfl rfl ?_
    refine tri_seq ?_
    refine tri_reg mixed hcx ?_ _ _
    refine asg rfl ?_
    refine ⟨by kernel_rfl, ?_⟩
    refine nx (sl 2 rfl sn) (el 10 rfl en) ?_
    refine tri_ret ?_
    repeat (first | refine pn_thenr ?_ | refine pn_blkr ?_)
    exact ret1 hcx rfl (rv_tmp rfl) (b_no hq (fun h => by have := h.2.1; omega)) en
  · refine tri_reg mixed hcx ?_ _ _
    refine fa rfl fL 1 ?_
    refine ld rfl rfl tyZss rfl ?_
    refine ln slZss rfl ?_
    refine ceq rfl rfl (decide_eq_false (by omega)) ?_
    refine mv rfl ?_
    refine fa rfl fD 0 ?_ (hg := gd1)
    refine ld rfl rfl tyZs rfl ?_ (hg := gd1)
    refine ln slZs rfl ?_ (hg := gd1)
    refine fa rfl fL 1 ?_ (hg := gd1)
    refine ld rfl rfl tyZss rfl ?_ (hg := gd1)
    refine ln slZss rfl ?_ (hg := gd1)
    refine ad _ rfl rfl rfl ⟨rfl, by omega, by omega⟩ ?_ (hg := gd1)
    refine cne rfl rfl (decide_eq_false (by omega)) ?_ (hg := gd1)
    refine pk rfl rfl ?_
    refine mv rfl ?_
    refine fa rfl fD 0 ?_ (hg := gd1)
    refine ld rfl rfl tyZs rfl ?_ (hg := gd1)
    refine ix rfl rfl slZs ⟨(rfl : _ = ((0 : Nat) : Int)), by omega⟩ ?_ (hg := gd1)
    refine lf rfl tyZ ?_ (hg := gd1)
    refine ca rfl (h := zi_Of (by omega) (by omega)) (hn := ?_) (hg := gd1)
    refine ca rfl (h := zi_Compare (by omega) (by omega)) (hn := ?_) (hg := gd1)
    refine cne rfl rfl rfl ?_ (hg := gd1)
    refine pk rfl rfl ?_
    refine ⟨by kernel_rfl, ?_⟩
    refine nx (sl 1 rfl (sl 27 rfl sn)) (el 10 rfl en) ?_
    refine tri_if rfl (fun hc => ?_) (fun hc => ?_)
    · refine tri_seq ?_
      refine tri_reg mixed hcx ?_ _ _
      refine asg rfl ?_
      refine ⟨by kernel_rfl, ?_⟩
      refine nx (sl 2 rfl sn) (el 10 rfl en) ?_
      refine tri_ret ?_
      repeat (first | refine pn_thenr ?_ | refine pn_blkr ?_)
      exact ret1 hcx rfl (rv_tmp rfl) (b_no hq (fun h => hc (sgnc_eq0.2 h.2.2.1))) en
    · have hD0 : D.getD 0 0 = 1 := sgnc_eq0.1 (Decidable.not_not.1 hc)
      refine tri_skip ?_
      refine nx (sl 1 rfl sn) (el 10 rfl en) ?_
      refine tri_seq ?_
      refine tri_seq ?_
      refine tri_reg mixed hcx ?_ _ _
      refine fa rfl fL 1 ?_
      refine ld rfl rfl tyZss rfl ?_
      refine ln slZss rfl ?_
      refine mv rfl ?_
      refine ⟨by kernel_rfl, ?_⟩
      refine nx (sl 1 rfl (sl 29 rfl (sl 30 rfl (sl 31 rfl sn)))) (el 10 rfl en) ?_
      refine tri_block ?_
      refine tri_loop (ι := Nat) (fun i => [(1, T.p 10 0), (29, T.l (cL (cZi k)) L), (30, T.c (.int .i64 (L.length : Int))), (31, T.c (.int .i64 (i : Int)))]) (fun i => [(10, some (Ent.box 27 [T.l (cZi k) D, T.l (cL (cZi k)) L]))]) (fun i => L.length - i) (fun i => (i ≤ L.length) ∧ (∀ j, j < i → (L.getD j []).length = j ∧ 0 < D.getD (j + 1) 0)) 0 ⟨Nat.zero_le _, fun j hj => absurd hj (Nat.not_lt_zero _)⟩ (sl 1 rfl (sl 29 rfl (sl 30 rfl (sl 31 rfl sn)))) (el 10 rfl en) ?_
      rintro i ⟨hi, hI⟩
      refine tri_sub (sl 1 rfl (sl 29 rfl (sl 30 rfl (sl 31 rfl sn)))) (el 10 rfl en) ?_
      refine tri_seq ?_
      refine tri_reg mixed hcx ?_ _ _
      refine clt rfl rfl rfl ?_
      refine ⟨by kernel_rfl, ?_⟩
      refine nx (sl 1 rfl (sl 29 rfl (sl 30 rfl (sl 31 rfl (sl 32 rfl sn))))) (el 10 rfl en) ?_
      refine tri_seq ?_
      refine tri_if rfl (fun hd => ?_) (fun hd => ?_)
      · refine tri_skip ?_
        refine nx (sl 1 rfl (sl 29 rfl (sl 30 rfl (sl 31 rfl sn)))) (el 10 rfl en) ?_
        refine tri_seq ?_
        refine tri_block ?_
        refine tri_seq ?_
        refine tri_reg mixed hcx ?_ _ _
        refine mv rfl ?_
        refine ix rfl rfl slZss ⟨rfl, by omega⟩ ?_
        refine lf rfl tyZs ?_
        refine asg rfl ?_
        refine asg rfl ?_
        refine ⟨by kernel_rfl, ?_⟩
        refine nx (sl 1 rfl (sl 3 rfl (sl 4 rfl (sl 29 rfl (sl 30 rfl (sl 31 rfl sn)))))) (el 10 rfl en) ?_
        refine tri_seq ?_
        by_cases hLi : (L.getD i []).length = i
        · refine tri_reg mixed hcx ?_ _ _
          refine mv rfl ?_
          refine ln slZs rfl ?_
          refine mv rfl ?_
          refine cne rfl rfl (decide_eq_false (fun h => h (Int.ofNat_inj.2 hLi))) ?_
          refine mv rfl ?_
          refine fa rfl fD 0 ?_ (hg := gd1)
          refine ld rfl rfl tyZs rfl ?_ (hg := gd1)
          refine mv rfl ?_ (hg := gd1)
          refine ad (((i + 1 : Nat) : Int)) rfl rfl rfl (by omega) ?_ (hg := gd1)
          refine ix rfl rfl slZs ⟨rfl, by omega⟩ ?_ (hg := gd1)
          refine lf rfl tyZ ?_ (hg := gd1)
          refine ca rfl (h := zi_Sign (by omega)) (hn := ?_) (hg := gd1)
          refine cle rfl rfl rfl ?_ (hg := gd1)
          refine pk rfl rfl ?_
          refine ⟨by kernel_rfl, ?_⟩
          refine nx (sl 1 rfl (sl 29 rfl (sl 30 rfl (sl 31 rfl (sl 49 rfl sn))))) (el 10 rfl en) ?_
          refine tri_if rfl (fun he => ?_) (fun he => ?_)
          · refine tri_seq ?_
            refine tri_reg mixed hcx ?_ _ _
            refine asg rfl ?_
            refine ⟨by kernel_rfl, ?_⟩
            refine nx (sl 2 rfl sn) (el 10 rfl en) ?_
            refine tri_ret ?_
            repeat (first | refine pn_thenr ?_ | refine pn_blkr ?_)
            exact ret1 hcx rfl (rv_tmp rfl) (b_no hq (fun h => by have := (h.2.2.2 i (by omega)).2; have h2 := sg_le.1 he; exact absurd this (Int.not_lt.2 h2))) en
          · have hDi : 0 < D.getD (i + 1) 0 := Int.not_le.1 fun h => he (sg_le.2 h)
            refine tri_skip ?_
            refine pn_blk ?_
            refine nx (sl 1 rfl (sl 29 rfl (sl 30 rfl (sl 31 rfl sn)))) (el 10 rfl en) ?_
            refine tri_reg mixed hcx ?_ _ _
            refine ad (((i + 1 : Nat) : Int)) rfl rfl rfl (by omega) ?_
            refine mv rfl ?_
            refine ⟨by kernel_rfl, ?_⟩
            exact pn_back (i + 1) (by first | omega | (dsimp only; omega)) ⟨by omega, fun j hj => by { rcases Nat.lt_or_eq_of_le (Nat.le_of_lt_succ hj) with h | h; { exact hI j h }; { subst h; exact ⟨hLi, hDi⟩ } }⟩ (sl 1 rfl (sl 29 rfl (sl 30 rfl (sl 31 rfl sn)))) (el 10 rfl en)
        · refine tri_reg mixed hcx ?_ _ _
          refine mv rfl ?_
          refine ln slZs rfl ?_
          refine mv rfl ?_
          refine cne rfl rfl (decide_eq_true (fun h => hLi (Int.ofNat_inj.1 h))) ?_
          refine mv rfl ?_
          refine j_off rfl rfl rfl rfl ?_
          refine j_off rfl rfl rfl rfl ?_
          refine j_off rfl rfl rfl rfl ?_
          refine j_off rfl rfl rfl rfl ?_
          refine j_off rfl rfl rfl rfl ?_
          refine j_off rfl rfl rfl rfl ?_
          refine j_off rfl rfl rfl rfl ?_
          refine j_off rfl rfl rfl rfl ?_
          refine pk rfl rfl ?_
          refine ⟨by kernel_rfl, ?_⟩
          refine nx (sl 1 rfl (sl 29 rfl (sl 30 rfl (sl 31 rfl (sl 49 rfl sn))))) (el 10 rfl en) ?_
          refine tri_true rfl rfl ?_
          refine tri_seq ?_
          refine tri_reg mixed hcx ?_ _ _
          refine asg rfl ?_
          refine ⟨by kernel_rfl, ?_⟩
          refine nx (sl 2 rfl sn) (el 10 rfl en) ?_
          refine tri_ret ?_
          repeat (first | refine pn_thenr ?_ | refine pn_blkr ?_)
          exact ret1 hcx rfl (rv_tmp rfl) (b_no hq (fun h => hLi (h.2.2.2 i (by omega)).1)) en
      · refine tri_exit ?_
        repeat (first | refine pn_then ?_ | refine pn_oth (by decide) ?_)
        refine pn_ex ?_
        refine nx sn (el 10 rfl en) ?_
        refine tri_seq ?_
        refine tri_reg mixed hcx ?_ _ _
        refine asg rfl ?_
        refine ⟨by kernel_rfl, ?_⟩
        refine nx (sl 2 rfl sn) (el 10 rfl en) ?_
        refine tri_ret ?_
        repeat (first | refine pn_thenr ?_ | refine pn_blkr ?_)
        exact ret1 hcx rfl (rv_tmp rfl) (b_yes hq ⟨hL, hD, hD0, fun j hj => hI j (by omega)⟩) en

theorem r05_Good {D : List Int} {L : List (List Int)} {k : Nat} {q : Bool} (hq : q = true ↔ GoodP D L) (hk : k ≤ 1073741824) (hLl : L.length ≤ 1073741824) (hDl : D.length ≤ 1073741824) : Fn Tryz.prog 66 [T.G D L k] [] [] [] (T.c (.bool q)) := by
  refine fn_of Tryz.func66 rfl (by show 1 ≤ 57; decide) fun cx hcx => ?_
  refine tri_sub (sl 0 rfl sn) en ?_
  refine tri_seq ?_
  refine tri_reg mixed hcx ?_ _ _
  refine bxs 10 rfl ?_
  refine asg rfl ?_
  refine ⟨by kernel_rfl, ?_⟩
  refine nx (sl 1 rfl sn) (el 10 rfl en) ?_
  refine tri_seq ?_
  refine tri_seq ?_
  rcases Nat.eq_zero_or_pos L.length with hL | hL; rotate_left; rcases Nat.decEq D.length (L.length + 1) with hD | hD; rotate_left; rotate_left
  · refine tri_reg mixed hcx ?_ _ _
    refine fa rfl fL 1 ?_
    refine ld rfl rfl tyZss rfl ?_
    refine ln slZss rfl ?_
    refine ceq rfl rfl (decide_eq_true (by omega)) ?_
    refine mv rfl ?_
    refine j_off rfl rfl rfl rfl ?_
    refine j_off rfl rfl rfl rfl ?_
    refine j_off rfl rfl rfl rfl ?_
    refine j_off rfl rfl rfl rfl ?_
    refine j_off rfl rfl rfl rfl ?_
    refine j_off rfl rfl rfl rfl ?_
    refine j_off rfl rfl rfl rfl ?_
    refine j_off rfl rfl rfl rfl ?_
    refine pk rfl rfl ?_
    refine mv rfl ?_
    refine j_off rfl rfl rfl rfl ?_
    refine j_off rfl rfl rfl rfl ?_
    refine j_off rfl rfl rfl rfl ?_
    refine j_off rfl rfl rfl rfl ?_
    refine j_off rfl rfl rfl rfl ?_
    refine j_off rfl rfl rfl rfl ?_
    refine j_off rfl rfl rfl rfl ?_
    refine pk rfl rfl ?_
    refine ⟨by kernel_rfl, ?_⟩
    refine nx (sl 1 rfl (sl 27 rfl sn)) (el 10 rfl en) ?_
    refine tri_true rfl rfl ?_
    refine tri_seq ?_
    refine tri_reg mixed hcx ?_ _ _
    refine asg rfl ?_
    refine ⟨by kernel_rfl, ?_⟩
    refine nx (sl 2 rfl sn) (el 10 rfl en) ?_
    refine tri_ret ?_
    repeat (first | refine pn_thenr ?_ | refine pn_blkr ?_)
    exact ret1 hcx rfl (rv_tmp rfl) (b_no hq (fun h => by have := h.1; omega)) en
  · refine tri_reg mixed hcx ?_ _ _
    refine fa rfl fL 1 ?_
    refine ld rfl rfl tyZss rfl ?_
    refine ln slZss rfl ?_
    refine ceq rfl rfl (decide_eq_false (by omega)) ?_
    refine mv rfl ?_
    refine fa rfl fD 0 ?_ (hg := gd1)
    refine ld rfl rfl tyZs rfl ?_ (hg := gd1)
    refine ln slZs rfl ?_ (hg := gd1)
    refine fa rfl fL 1 ?_ (hg := gd1)
    refine ld rfl rfl tyZss rfl ?_ (hg := gd1)
    refine ln slZss rfl ?_ (hg := gd1)
    refine ad _ rfl rfl rfl ⟨rfl, by omega, by omega⟩ ?_ (hg := gd1)
    refine cne rfl rfl (decide_eq_true (by omega)) ?_ (hg := gd1)
    refine pk rfl rfl ?_
    refine mv rfl ?_
    refine j_off rfl rfl rfl rfl ?_
    refine j_off rfl rfl rfl rfl ?_
    refine j_off rfl rfl rfl rfl ?_
    refine j_off rfl rfl rfl rfl ?_
    refine j_off rfl rfl rfl rfl ?_
    refine j_off rfl rfl rfl rfl ?_
    refine j_off rfl rfl rfl rfl ?_
    refine pk rfl rfl ?_
    refine ⟨by kernel_rfl, ?_⟩
    refine nx (sl 1 rfl (sl 27 rfl sn)) (el 10 rfl en) ?_
    refine tri_true rfl rfl ?_
    refine tri_seq ?_
    refine tri_reg mixed hcx ?_ _ _
    refine asg rfl ?_
    refine ⟨by kernel_rfl, ?_⟩
    refine nx (sl 2 rfl sn) (el 10 rfl en) ?_
    refine tri_ret ?_
    repeat (first | refine pn_thenr ?_ | refine pn_blkr ?_)
    exact ret1 hcx rfl (rv_tmp rfl) (b_no hq (fun h => by have := h.2.1; omega)) en
  · refine tri_reg mixed hcx ?_ _ _
    refine fa rfl fL 1 ?_
    refine ld rfl rfl tyZss rfl ?_
    refine ln slZss rfl ?_
    refine ceq rfl rfl (decide_eq_false (by omega)) ?_
    refine mv rfl ?_
    refine fa rfl fD 0 ?_ (hg := gd1)
    refine ld rfl rfl tyZs rfl ?_ (hg := gd1)
    refine ln slZs rfl ?_ (hg := gd1)
    refine fa rfl fL 1 ?_ (hg := gd1)
    refine ld rfl rfl tyZss rfl ?_ (hg := gd1)
    refine ln slZss rfl ?_ (hg := gd1)
    refine ad _ rfl rfl rfl ⟨rfl, by omega, by omega⟩ ?_ (hg := gd1)
    refine cne rfl rfl (decide_eq_false (by omega)) ?_ (hg := gd1)
    refine pk rfl rfl ?_
    refine mv rfl ?_
    refine fa rfl fD 0 ?_ (hg := gd1)
    refine ld rfl rfl tyZs rfl ?_ (hg := gd1)
    refine ix rfl rfl slZs ⟨(rfl : _ = ((0 : Nat) : Int)), by omega⟩ ?_ (hg := gd1)
    refine lf rfl tyZ ?_ (hg := gd1)
    refine ca rfl (h := r02_Of (by omega) (by omega)) (hn := ?_) (hg := gd1)
    refine ca rfl (h := r02_Cmp (by omega) (by omega)) (hn := ?_) (hg := gd1)
    refine cne rfl rfl rfl ?_ (hg := gd1)
    refine pk rfl rfl ?_
    refine ⟨by kernel_rfl, ?_⟩
    refine nx (sl 1 rfl (sl 27 rfl sn)) (el 10 rfl en) ?_
    refine tri_if rfl (fun hc => ?_) (fun hc => ?_)
    · refine tri_seq ?_
      refine tri_reg mixed hcx ?_ _ _
      refine asg rfl ?_
      refine ⟨by kernel_rfl, ?_⟩
      refine nx (sl 2 rfl sn) (el 10 rfl en) ?_
      refine tri_ret ?_
      repeat (first | refine pn_thenr ?_ | refine pn_blkr ?_)
      exact ret1 hcx rfl (rv_tmp rfl) (b_no hq (fun h => hc (sgnc_eq0.2 h.2.2.1))) en
    · have hD0 : D.getD 0 0 = 1 := sgnc_eq0.1 (Decidable.not_not.1 hc)
      refine tri_skip ?_
      refine nx (sl 1 rfl sn) (el 10 rfl en) ?_
      refine tri_seq ?_
      refine tri_seq ?_
      refine tri_reg mixed hcx ?_ _ _
      refine asg rfl ?_
      refine ⟨by kernel_rfl, ?_⟩
      refine nx (sl 1 rfl (sl 3 rfl sn)) (el 10 rfl en) ?_
      refine tri_block ?_
      refine tri_loop (ι := Nat) (fun i => [(1, T.p 10 0), (3, T.c (.int .i64 (i : Int)))]) (fun i => [(10, some (Ent.box 27 [T.l (cZi k) D, T.l (cL (cZi k)) L]))]) (fun i => D.length - i) (fun i => (i ≤ D.length) ∧ (∀ j, j < i → 0 < D.getD j 0)) 0 ⟨Nat.zero_le _, fun j hj => absurd hj (Nat.not_lt_zero _)⟩ (sl 1 rfl (sl 3 rfl sn)) (el 10 rfl en) ?_
      rintro i ⟨hi, hI⟩
      refine tri_sub (sl 1 rfl (sl 3 rfl sn)) (el 10 rfl en) ?_
      refine tri_seq ?_
      refine tri_seq ?_
      refine tri_reg mixed hcx ?_ _ _
      refine mv rfl ?_
      refine fa rfl fD 0 ?_
      refine ld rfl rfl tyZs rfl ?_
      refine ln slZs rfl ?_
      refine clt rfl rfl rfl ?_
      refine ⟨by kernel_rfl, ?_⟩
      refine nx (sl 1 rfl (sl 3 rfl (sl 32 rfl sn))) (el 10 rfl en) ?_
      refine tri_if rfl (fun hd => ?_) (fun hd => ?_)
      · refine tri_skip ?_
        refine nx (sl 1 rfl (sl 3 rfl sn)) (el 10 rfl en) ?_
        refine tri_seq ?_
        refine tri_block ?_
        refine tri_seq ?_
        refine tri_reg mixed hcx ?_ _ _
        refine fa rfl fD 0 ?_
        refine ld rfl rfl tyZs rfl ?_
        refine mv rfl ?_
        refine ix rfl rfl slZs ⟨rfl, by omega⟩ ?_
        refine lf rfl tyZ ?_
        refine ca rfl (h := r02_Sign (by omega)) (hn := ?_)
        refine cle rfl rfl rfl ?_
        refine ⟨by kernel_rfl, ?_⟩
        refine nx (sl 1 rfl (sl 3 rfl (sl 41 rfl sn))) (el 10 rfl en) ?_
        refine tri_if rfl (fun he => ?_) (fun he => ?_)
        · refine tri_seq ?_
          refine tri_reg mixed hcx ?_ _ _
          refine asg rfl ?_
          refine ⟨by kernel_rfl, ?_⟩
          refine nx (sl 2 rfl sn) (el 10 rfl en) ?_
          refine tri_ret ?_
          repeat (first | refine pn_thenr ?_ | refine pn_blkr ?_)
          exact ret1 hcx rfl (rv_tmp rfl) (b_no hq (fun h => by have h2 := sg_le.1 he; cases i with | zero => exact absurd h.2.2.1 (fun h3 => by rw [show D.getD 0 (cZi k).dflt = D.getD 0 0 from rfl, h3] at h2; omega) | succ j => exact absurd (h.2.2.2 j (by omega)).2 (Int.not_lt.2 h2))) en
        · have hDi : 0 < D.getD i 0 := Int.not_le.1 fun h => he (sg_le.2 h)
          refine tri_skip ?_
          refine pn_blk ?_
          refine nx (sl 1 rfl (sl 3 rfl sn)) (el 10 rfl en) ?_
          refine tri_reg mixed hcx ?_ _ _
          refine mv rfl ?_
          refine ad (((i + 1 : Nat) : Int)) rfl rfl rfl (by omega) ?_
          refine asg rfl ?_
          refine ⟨by kernel_rfl, ?_⟩
          exact pn_back (i + 1) (by first | omega | (dsimp only; omega)) ⟨by omega, fun j hj => by { rcases Nat.lt_or_eq_of_le (Nat.le_of_lt_succ hj) with h | h; { exact hI j h }; { subst h; exact hDi } }⟩ (sl 1 rfl (sl 3 rfl sn)) (el 10 rfl en)
      · refine tri_exit ?_
        repeat (first | refine pn_then ?_ | refine pn_oth (by decide) ?_)
        refine pn_ex ?_
        refine nx (sl 1 rfl sn) (el 10 rfl en) ?_
        refine tri_seq ?_
        refine tri_seq ?_
        refine tri_reg mixed hcx ?_ _ _
        refine asg rfl ?_
        refine ⟨by kernel_rfl, ?_⟩
        refine nx (sl 1 rfl (sl 4 rfl sn)) (el 10 rfl en) ?_
        refine tri_block ?_
        refine tri_loop (ι := Nat) (fun m => [(1, T.p 10 0), (4, T.c (.int .i64 (m : Int)))]) (fun m => [(10, some (Ent.box 27 [T.l (cZi k) D, T.l (cL (cZi k)) L]))]) (fun m => L.length - m) (fun m => (m ≤ L.length) ∧ (∀ j, j < m → (L.getD j []).length = j)) 0 ⟨Nat.zero_le _, fun j hj => absurd hj (Nat.not_lt_zero _)⟩ (sl 1 rfl (sl 4 rfl sn)) (el 10 rfl en) ?_
        rintro m ⟨hm, hJ⟩
        refine tri_sub (sl 1 rfl (sl 4 rfl sn)) (el 10 rfl en) ?_
        refine tri_seq ?_
        refine tri_seq ?_
        refine tri_reg mixed hcx ?_ _ _
        refine mv rfl ?_
        refine fa rfl fL 1 ?_
        refine ld rfl rfl tyZss rfl ?_
        refine ln slZss rfl ?_
        refine clt rfl rfl rfl ?_
        refine ⟨by kernel_rfl, ?_⟩
        refine nx (sl 1 rfl (sl 4 rfl (sl 46 rfl sn))) (el 10 rfl en) ?_
        refine tri_if rfl (fun hg => ?_) (fun hg => ?_)
        · refine tri_skip ?_
          refine nx (sl 1 rfl (sl 4 rfl sn)) (el 10 rfl en) ?_
          refine tri_seq ?_
          refine tri_block ?_
          refine tri_seq ?_
          refine tri_reg mixed hcx ?_ _ _
          refine fa rfl fL 1 ?_
          refine ld rfl rfl tyZss rfl ?_
          refine mv rfl ?_
          refine ix rfl rfl slZss ⟨rfl, by omega⟩ ?_
          refine lf rfl tyZs ?_
          refine ln slZs rfl ?_
          refine mv rfl ?_
          refine cne rfl rfl rfl ?_
          refine ⟨by kernel_rfl, ?_⟩
          refine nx (sl 1 rfl (sl 4 rfl (sl 56 rfl sn))) (el 10 rfl en) ?_
          refine tri_if rfl (fun hf => ?_) (fun hf => ?_)
          · refine tri_seq ?_
            refine tri_reg mixed hcx ?_ _ _
            refine asg rfl ?_
            refine ⟨by kernel_rfl, ?_⟩
            refine nx (sl 2 rfl sn) (el 10 rfl en) ?_
            refine tri_ret ?_
            repeat (first | refine pn_thenr ?_ | refine pn_blkr ?_)
            exact ret1 hcx rfl (rv_tmp rfl) (b_no hq (fun h => hf (Int.ofNat_inj.2 (h.2.2.2 m (by omega)).1))) en
          · refine tri_skip ?_
            refine pn_blk ?_
            refine nx (sl 1 rfl (sl 4 rfl sn)) (el 10 rfl en) ?_
            refine tri_reg mixed hcx ?_ _ _
            refine mv rfl ?_
            refine ad (((m + 1 : Nat) : Int)) rfl rfl rfl (by omega) ?_
            refine asg rfl ?_
            refine ⟨by kernel_rfl, ?_⟩
            exact pn_back (m + 1) (by first | omega | (dsimp only; omega)) ⟨by omega, fun j hj => by { rcases Nat.lt_or_eq_of_le (Nat.le_of_lt_succ hj) with h | h; { exact hJ j h }; { subst h; exact Decidable.not_not.1 fun h => hf (fun h2 => h (Int.ofNat_inj.1 h2)) } }⟩ (sl 1 rfl (sl 4 rfl sn)) (el 10 rfl en)
        · refine tri_exit ?_
          repeat (first | refine pn_then ?_ | refine pn_oth (by decide) ?_)
          refine pn_ex ?_
          refine nx sn (el 10 rfl en) ?_
          refine tri_seq ?_
          refine tri_reg mixed hcx ?_ _ _
          refine asg rfl ?_
          refine ⟨by kernel_rfl, ?_⟩
          refine nx (sl 2 rfl sn) (el 10 rfl en) ?_
          refine tri_ret ?_
          repeat (first | refine pn_thenr ?_ | refine pn_blkr ?_)
          exact ret1 hcx rfl (rv_tmp rfl) (b_yes hq ⟨hL, hD, hD0, fun j hj => ⟨hJ j (by omega), hI (j + 1) (by omega)⟩⟩) en
end Go.Proofs.YtekghdfbhbhigaaGreat.V
/- Contracts: the numbers of the data of rows. -/
set_option linter.unusedVariables false
set_option linter.unusedSimpArgs false
set_option maxRecDepth 100000
namespace Go.Proofs.YtekghdfbhbhigaaGreat.V
open Go.RowKit Mt Nml
theorem GoodP.pos {D : List Int} {L : List (List Int)} (h : GoodP D L) {i : Nat} (hi : i ≤ L.length) : 0 < D.getD i 0 := by
  cases i with
  | zero => rw [h.2.2.1]; decide
  | succ j => exact (h.2.2.2 j (by omega)).2
abbrev ZQ : T := T.st [T.c (.bool false), T.c (.slice none 0 0), T.c (.bool false), T.c (.slice none 0 0)]

theorem g_Star {D : List Int} {L : List (List Int)} {k i : Nat} (hk : k ≤ 1073741824) (hLl : L.length ≤ 1048576) (hG : GoodP D L) (hi : i < L.length) : Fn Tryz.prog 132 [T.G D L k, T.c (.int .i64 (i : Int))] [] [] [] (T.tup [T.Q (((D.getD (i + 1) 0 : Int) : Rat) / (D.getD i 0 : Int)) (k + k), T.c (.int .i64 0)]) := by
  refine fn_of Tryz.func132 rfl (by show 2 ≤ 34; decide) fun cx hcx => ?_
  refine tri_sub (sl 0 rfl (sl 1 rfl sn)) en ?_
  have hDL := hG.2.1
  have hne : D.getD i (cZi k).dflt ≠ 0 := Int.ne_of_gt (hG.pos (by omega))
  refine tri_seq ?_
  refine tri_reg mixed hcx ?_ _ _
  refine bxs 10 rfl ?_
  refine nw 11 zeQ ?_
  refine asg rfl ?_
  refine ⟨by kernel_rfl, ?_⟩
  refine nx (sl 1 rfl (sl 2 rfl (sl 4 rfl sn))) (el 10 rfl (el 11 rfl en)) ?_
  refine tri_seq ?_
  refine tri_seq ?_
  refine tri_reg mixed hcx ?_ _ _
  refine ld rfl rfl tyG rfl ?_
  refine ca rfl (h := g_good (q := true) ⟨fun _ => hG, fun _ => rfl⟩ (by omega) (by omega) (by omega)) (hn := ?_)
  refine nt rfl _ rfl ?_
  refine ⟨by kernel_rfl, ?_⟩
  refine nx (sl 1 rfl (sl 2 rfl (sl 4 rfl (sl 8 rfl sn)))) (el 10 rfl (el 11 rfl en)) ?_
  refine tri_false rfl rfl ?_
  refine tri_skip ?_
  refine nx (sl 1 rfl (sl 2 rfl (sl 4 rfl sn))) (el 10 rfl (el 11 rfl en)) ?_
  refine tri_seq ?_
  refine tri_seq ?_
  refine tri_reg mixed hcx ?_ _ _
  refine mv rfl ?_
  refine clt rfl rfl (decide_eq_false (by omega)) ?_
  refine mv rfl ?_
  refine mv rfl ?_ (hg := gd1)
  refine fa rfl fL 1 ?_ (hg := gd1)
  refine ld rfl rfl tyZss rfl ?_ (hg := gd1)
  refine ln slZss rfl ?_ (hg := gd1)
  refine cge rfl rfl (decide_eq_false (by omega)) ?_ (hg := gd1)
  refine pk rfl rfl ?_
  refine ⟨by kernel_rfl, ?_⟩
  refine nx (sl 1 rfl (sl 2 rfl (sl 4 rfl (sl 18 rfl sn)))) (el 10 rfl (el 11 rfl en)) ?_
  refine tri_false rfl rfl ?_
  refine tri_skip ?_
  refine nx (sl 1 rfl (sl 2 rfl (sl 4 rfl sn))) (el 10 rfl (el 11 rfl en)) ?_
  refine tri_seq ?_
  refine tri_reg mixed hcx ?_ _ _
  refine fa rfl fD 0 ?_
  refine ld rfl rfl tyZs rfl ?_
  refine mv rfl ?_
  refine ad (((i + 1 : Nat) : Int)) rfl rfl rfl (by omega) ?_
  refine ix rfl rfl slZs ⟨rfl, by omega⟩ ?_
  refine lf rfl tyZ ?_
  refine fa rfl fD 0 ?_
  refine ld rfl rfl tyZs rfl ?_
  refine mv rfl ?_
  refine ix rfl rfl slZs ⟨rfl, by omega⟩ ?_
  refine lf rfl tyZ ?_
  refine ca rfl (h := rat_Make (by first | assumption | omega) (by omega) (by omega)) (hn := ?_)
  refine ex rfl rfl ?_
  refine ex rfl rfl ?_
  refine st rfl rfl rfl tyQ rfl ?_
  refine asg rfl ?_
  refine ⟨by kernel_rfl, ?_⟩
  refine nx (sl 4 rfl (sl 5 rfl sn)) (el 10 rfl (el 11 rfl en)) ?_
  refine tri_ret ?_
  repeat (first | refine pn_thenr ?_ | refine pn_blkr ?_)
  exact ret2 hcx rfl (rv_cell (c' := cx) (n := 0) rfl rfl tyQ rfl) (rv_tmp rfl) (.refl _) en

theorem g_Star_no {D : List Int} {L : List (List Int)} {k i : Nat} (hk : k ≤ 1073741824) (hLl : L.length ≤ 1048576) {z : Int} (hDl : D.length ≤ 1073741824) (hG : ¬ GoodP D L) : Fn Tryz.prog 132 [T.G D L k, T.c (.int .i64 z)] [] [] [] (T.tup [ZQ, T.c (.int .i64 51)]) := by
  refine fn_of Tryz.func132 rfl (by show 2 ≤ 34; decide) fun cx hcx => ?_
  refine tri_sub (sl 0 rfl (sl 1 rfl sn)) en ?_
  refine tri_seq ?_
  refine tri_reg mixed hcx ?_ _ _
  refine bxs 10 rfl ?_
  refine nw 11 zeQ ?_
  refine asg rfl ?_
  refine ⟨by kernel_rfl, ?_⟩
  refine nx (sl 1 rfl (sl 2 rfl (sl 4 rfl sn))) (el 10 rfl (el 11 rfl en)) ?_
  refine tri_seq ?_
  refine tri_seq ?_
  refine tri_reg mixed hcx ?_ _ _
  refine ld rfl rfl tyG rfl ?_
  refine ca rfl (h := g_good (q := false) ⟨fun h => (by cases h), fun h => absurd h hG⟩ (by omega) (by omega) (by omega)) (hn := ?_)
  refine nt rfl _ rfl ?_
  refine ⟨by kernel_rfl, ?_⟩
  refine nx (sl 1 rfl (sl 2 rfl (sl 4 rfl (sl 8 rfl sn)))) (el 10 rfl (el 11 rfl en)) ?_
  refine tri_true rfl rfl ?_
  refine tri_seq ?_
  refine tri_reg mixed hcx ?_ _ _
  refine bu stQ rfl ?_
  refine st rfl rfl rfl tyQ rfl ?_
  refine asg rfl ?_
  refine ⟨by kernel_rfl, ?_⟩
  refine nx (sl 4 rfl (sl 5 rfl sn)) (el 10 rfl (el 11 rfl en)) ?_
  refine tri_ret ?_
  repeat (first | refine pn_thenr ?_ | refine pn_blkr ?_)
  exact ret2 hcx rfl (rv_cell (c' := cx) (n := 0) rfl rfl tyQ rfl) (rv_tmp rfl) (.refl _) en

theorem r05_Star {D : List Int} {L : List (List Int)} {k i : Nat} (hk : k ≤ 1073741824) (hLl : L.length ≤ 1048576) (hG : GoodP D L) (hi : i < L.length) : Fn Tryz.prog 71 [T.G D L k, T.c (.int .i64 (i : Int))] [] [] [] (T.Q (((D.getD (i + 1) 0 : Int) : Rat) / (D.getD i 0 : Int)) (k + k)) := by
  refine fn_of Tryz.func71 rfl (by show 2 ≤ 17; decide) fun cx hcx => ?_
  refine tri_sub (sl 0 rfl (sl 1 rfl sn)) en ?_
  have hDL := hG.2.1
  have hne : D.getD i (cZi k).dflt ≠ 0 := Int.ne_of_gt (hG.pos (by omega))
  refine tri_seq ?_
  refine tri_reg mixed hcx ?_ _ _
  refine bxs 10 rfl ?_
  refine nw 11 zeQ ?_
  refine ⟨by kernel_rfl, ?_⟩
  refine nx (sl 1 rfl (sl 2 rfl (sl 4 rfl sn))) (el 10 rfl (el 11 rfl en)) ?_
  refine tri_seq ?_
  refine tri_reg mixed hcx ?_ _ _
  refine fa rfl fD 0 ?_
  refine ld rfl rfl tyZs rfl ?_
  refine mv rfl ?_
  refine ad (((i + 1 : Nat) : Int)) rfl rfl rfl (by omega) ?_
  refine ix rfl rfl slZs ⟨rfl, by omega⟩ ?_
  refine lf rfl tyZ ?_
  refine fa rfl fD 0 ?_
  refine ld rfl rfl tyZs rfl ?_
  refine mv rfl ?_
  refine ix rfl rfl slZs ⟨rfl, by omega⟩ ?_
  refine lf rfl tyZ ?_
  refine ca rfl (h := r03_Make (by first | assumption | omega) (by omega) (by omega)) (hn := ?_)
  refine st rfl rfl rfl tyQ rfl ?_
  refine ⟨by kernel_rfl, ?_⟩
  refine nx (sl 4 rfl sn) (el 10 rfl (el 11 rfl en)) ?_
  refine tri_ret ?_
  repeat (first | refine pn_thenr ?_ | refine pn_blkr ?_)
  exact ret1 hcx rfl (rv_cell (c' := cx) (n := 0) rfl rfl tyQ rfl) (.refl _) en

theorem g_Mu {D : List Int} {L : List (List Int)} {k i j : Nat} (hk : k ≤ 1073741824) (hLl : L.length ≤ 1048576) (hG : GoodP D L) (hi : i < L.length) (hj : j < i) : Fn Tryz.prog 163 [T.G D L k, T.c (.int .i64 (i : Int)), T.c (.int .i64 (j : Int))] [] [] [] (T.tup [T.Q ((((L.getD i []).getD j 0 : Int) : Rat) / (D.getD (j + 1) 0 : Int)) (k + k), T.c (.int .i64 0)]) := by
  refine fn_of Tryz.func163 rfl (by show 3 ≤ 56; decide) fun cx hcx => ?_
  refine tri_sub (sl 0 rfl (sl 1 rfl (sl 2 rfl sn))) en ?_
  have hDL := hG.2.1
  have hne : D.getD (j + 1) (cZi k).dflt ≠ 0 := Int.ne_of_gt (hG.pos (by omega)); have hLi : (L.getD i (cL (cZi k)).dflt).length = i := (hG.2.2.2 i hi).1
  refine tri_seq ?_
  refine tri_reg mixed hcx ?_ _ _
  refine bxs 10 rfl ?_
  refine nw 11 zeQ ?_
  refine asg rfl ?_
  refine ⟨by kernel_rfl, ?_⟩
  refine nx (sl 1 rfl (sl 2 rfl (sl 3 rfl (sl 6 rfl sn)))) (el 10 rfl (el 11 rfl en)) ?_
  refine tri_seq ?_
  refine tri_block ?_
  refine tri_seq ?_
  refine tri_reg mixed hcx ?_ _ _
  refine ld rfl rfl tyG rfl ?_
  refine ca rfl (h := g_good (q := true) ⟨fun _ => hG, fun _ => rfl⟩ (by omega) (by omega) (by omega)) (hn := ?_)
  refine nt rfl _ rfl ?_
  refine asg rfl ?_
  refine ⟨by kernel_rfl, ?_⟩
  refine nx (sl 1 rfl (sl 2 rfl (sl 3 rfl (sl 6 rfl (sl 8 rfl sn))))) (el 10 rfl (el 11 rfl en)) ?_
  refine tri_false rfl rfl ?_
  refine tri_seq ?_
  refine tri_reg mixed hcx ?_ _ _
  refine mv rfl ?_
  refine clt rfl rfl (decide_eq_false (by omega)) ?_
  refine mv rfl ?_
  refine mv rfl ?_ (hg := gd1)
  refine fa rfl fL 1 ?_ (hg := gd1)
  refine ld rfl rfl tyZss rfl ?_ (hg := gd1)
  refine ln slZss rfl ?_ (hg := gd1)
  refine cge rfl rfl (decide_eq_false (by omega)) ?_ (hg := gd1)
  refine pk rfl rfl ?_
  refine mv rfl ?_
  refine mv rfl ?_ (hg := gd1)
  refine clt rfl rfl (decide_eq_false (by omega)) ?_ (hg := gd1)
  refine pk rfl rfl ?_
  refine mv rfl ?_
  refine mv rfl ?_ (hg := gd1)
  refine mv rfl ?_ (hg := gd1)
  refine cgt rfl rfl (decide_eq_false (by omega)) ?_ (hg := gd1)
  refine pk rfl rfl ?_
  refine asg rfl ?_
  refine ⟨by kernel_rfl, ?_⟩
  refine nx (sl 1 rfl (sl 2 rfl (sl 3 rfl (sl 6 rfl (sl 13 rfl sn))))) (el 10 rfl (el 11 rfl en)) ?_
  refine tri_false rfl rfl ?_
  refine tri_seq ?_
  refine tri_reg mixed hcx ?_ _ _
  refine mv rfl ?_
  refine mv rfl ?_
  refine ceq rfl rfl (decide_eq_false (by omega)) ?_
  refine asg rfl ?_
  refine ⟨by kernel_rfl, ?_⟩
  refine nx (sl 1 rfl (sl 2 rfl (sl 3 rfl (sl 6 rfl (sl 33 rfl sn))))) (el 10 rfl (el 11 rfl en)) ?_
  refine tri_false rfl rfl ?_
  refine tri_skip ?_
  refine pn_blk ?_
  refine nx (sl 1 rfl (sl 2 rfl (sl 3 rfl (sl 6 rfl sn)))) (el 10 rfl (el 11 rfl en)) ?_
  refine tri_seq ?_
  refine tri_reg mixed hcx ?_ _ _
  refine fa rfl fL 1 ?_
  refine ld rfl rfl tyZss rfl ?_
  refine mv rfl ?_
  refine ix rfl rfl slZss ⟨rfl, by omega⟩ ?_
  refine lf rfl tyZs ?_
  refine mv rfl ?_
  refine ix rfl rfl slZs ⟨rfl, by omega⟩ ?_
  refine lf rfl tyZ ?_
  refine fa rfl fD 0 ?_
  refine ld rfl rfl tyZs rfl ?_
  refine mv rfl ?_
  refine ad (((j + 1 : Nat) : Int)) rfl rfl rfl (by omega) ?_
  refine ix rfl rfl slZs ⟨rfl, by omega⟩ ?_
  refine lf rfl tyZ ?_
  refine ca rfl (h := rat_Make (by first | assumption | omega) (by omega) (by omega)) (hn := ?_)
  refine ex rfl rfl ?_
  refine ex rfl rfl ?_
  refine st rfl rfl rfl tyQ rfl ?_
  refine asg rfl ?_
  refine ⟨by kernel_rfl, ?_⟩
  refine nx (sl 6 rfl (sl 7 rfl sn)) (el 10 rfl (el 11 rfl en)) ?_
  refine tri_ret ?_
  repeat (first | refine pn_thenr ?_ | refine pn_blkr ?_)
  exact ret2 hcx rfl (rv_cell (c' := cx) (n := 0) rfl rfl tyQ rfl) (rv_tmp rfl) (.refl _) en

theorem r05_Mu {D : List Int} {L : List (List Int)} {k i j : Nat} (hk : k ≤ 1073741824) (hLl : L.length ≤ 1048576) (hG : GoodP D L) (hi : i < L.length) (hj : j < i) : Fn Tryz.prog 126 [T.G D L k, T.c (.int .i64 (i : Int)), T.c (.int .i64 (j : Int))] [] [] [] (T.Q ((((L.getD i []).getD j 0 : Int) : Rat) / (D.getD (j + 1) 0 : Int)) (k + k)) := by
  refine fn_of Tryz.func126 rfl (by show 3 ≤ 27; decide) fun cx hcx => ?_
  refine tri_sub (sl 0 rfl (sl 1 rfl (sl 2 rfl sn))) en ?_
  have hDL := hG.2.1
  have hne : D.getD (j + 1) (cZi k).dflt ≠ 0 := Int.ne_of_gt (hG.pos (by omega)); have hLi : (L.getD i (cL (cZi k)).dflt).length = i := (hG.2.2.2 i hi).1
  refine tri_seq ?_
  refine tri_reg mixed hcx ?_ _ _
  refine bxs 10 rfl ?_
  refine nw 11 zeQ ?_
  refine ⟨by kernel_rfl, ?_⟩
  refine nx (sl 1 rfl (sl 2 rfl (sl 3 rfl (sl 6 rfl sn)))) (el 10 rfl (el 11 rfl en)) ?_
  refine tri_seq ?_
  refine tri_seq ?_
  refine tri_reg mixed hcx ?_ _ _
  refine mv rfl ?_
  refine mv rfl ?_
  refine ceq rfl rfl (decide_eq_false (by omega)) ?_
  refine ⟨by kernel_rfl, ?_⟩
  refine nx (sl 1 rfl (sl 2 rfl (sl 3 rfl (sl 6 rfl (sl 9 rfl sn))))) (el 10 rfl (el 11 rfl en)) ?_
  refine tri_false rfl rfl ?_
  refine tri_skip ?_
  refine nx (sl 1 rfl (sl 2 rfl (sl 3 rfl (sl 6 rfl sn)))) (el 10 rfl (el 11 rfl en)) ?_
  refine tri_seq ?_
  refine tri_reg mixed hcx ?_ _ _
  refine fa rfl fL 1 ?_
  refine ld rfl rfl tyZss rfl ?_
  refine mv rfl ?_
  refine ix rfl rfl slZss ⟨rfl, by omega⟩ ?_
  refine lf rfl tyZs ?_
  refine mv rfl ?_
  refine ix rfl rfl slZs ⟨rfl, by omega⟩ ?_
  refine lf rfl tyZ ?_
  refine fa rfl fD 0 ?_
  refine ld rfl rfl tyZs rfl ?_
  refine mv rfl ?_
  refine ad (((j + 1 : Nat) : Int)) rfl rfl rfl (by omega) ?_
  refine ix rfl rfl slZs ⟨rfl, by omega⟩ ?_
  refine lf rfl tyZ ?_
  refine ca rfl (h := r03_Make (by first | assumption | omega) (by omega) (by omega)) (hn := ?_)
  refine st rfl rfl rfl tyQ rfl ?_
  refine ⟨by kernel_rfl, ?_⟩
  refine nx (sl 6 rfl sn) (el 10 rfl (el 11 rfl en)) ?_
  refine tri_ret ?_
  repeat (first | refine pn_thenr ?_ | refine pn_blkr ?_)
  exact ret1 hcx rfl (rv_cell (c' := cx) (n := 0) rfl rfl tyQ rfl) (.refl _) en

end Go.Proofs.YtekghdfbhbhigaaGreat.V
/- A logic of calls: rows in a box get other names; a slice with a bound. -/
set_option linter.unusedVariables false
set_option linter.unusedSimpArgs false
namespace Go.Proofs.YtekghdfbhbhigaaGreat.V
open Go.RowKit Mt Nml

/-- The same things, with another name for a row. -/
def RenC (e e' : Nat) : List T → List T → Prop
  | [], [] => True
  | X :: r, Y :: s => ((X = Y ∧ e ∉ X.ns) ∨ (X = T.o e' ∧ Y = T.o e)) ∧ RenC e e' r s
  | _, _ => False
theorem RenC.cells {e e' : Nat} {β : Env} {u : World} : ∀ {l l' : List T} {cs : List Value}, RenC e e' l l' → Cells β u l cs → Cells (setE β e (β e')) u l' cs
  | [], [], _, _, h => h
  | X :: r, Y :: s, cs, ⟨k1, k2⟩, ⟨v, rest, h0, h1, he, h2⟩ => by
    refine ⟨v, rest, ?_, ?_, he, RenC.cells k2 h2⟩
    · rcases k1 with ⟨rfl, _⟩ | ⟨_, rfl⟩
      · exact h0
      · show (1 : Nat) ≠ 0; omega
    · rcases k1 with ⟨rfl, hn⟩ | ⟨rfl, rfl⟩
      · exact X.ext (fun q hq => setE_ne _ _ (fun h => hn (h ▸ hq))) h1
      · exact ⟨by rw [setE_same]; exact h1.1, h1.2⟩
  | [], _ :: _, _, h, _ => h.elim
  | _ :: _, [], _, h, _ => h.elim
section
variable {P : Program} {x : Code} {Q : Exit → Act → World → Prop} {ctx : Ctx} {n : Nat} {g : List (Nat × T)} {E : List (Nat × Option Ent)}
/-- A row of one's own whose slice lies in a box gets another name. -/
theorem pn_renb {α : Type} {c : Cod α} {l : List α} {τ et : TypeId} {bl bl' : List T} {K : Act → World → Prop} (f e e' : Nat) (hE : lkE E e' = some (Ent.row c τ l)) (hB : lkE E f = some (Ent.box et bl)) (hr : RenC e e' bl bl') (hf : ((nsOf g ++ nsE E ++ ctx.I).contains e) = false) (hfe : Nat.beq f e' = false := by rfl) (h : PN ctx n K g ((f, some (Ent.box et bl')) :: (e, some (Ent.row c τ l)) :: (e', none) :: E)) : PN ctx n K g E := fun a w hS => h a w (by
  obtain ⟨β, u, F, h1, h2, h3, h4, h5, h6, h7⟩ := hS
  have hfr : e ∉ nsOf g ∧ e ∉ nsE E ∧ e ∉ ctx.I := by
    simp only [List.contains_eq_mem, decide_eq_false_iff_not, List.mem_append, not_or] at hf
    exact ⟨hf.1.1, hf.1.2, hf.2⟩
  have hne : e ≠ e' := fun h => hfr.2.1 (h ▸ (lkE_base hE).1)
  have hfn : f ≠ e := fun h => hfr.2.1 (h ▸ (lkE_base hB).1)
  have hfe' : f ≠ e' := fun h => by subst h; simp at hfe
  have hb : ∀ q, q ≠ e → setE β e (β e') q = β q := fun q hne => setE_ne _ _ hne
  have hlk : ∀ q, lkE ((f, some (Ent.box et bl')) :: (e, some (Ent.row c τ l)) :: (e', none) :: E) q = if f = q then some (Ent.box et bl') else if e = q then some (Ent.row c τ l) else if e' = q then none else lkE E q := fun q => by
    unfold lkE
    rw [lk_cons, lk_cons, lk_cons]
    by_cases h0 : f = q
    · rw [if_pos h0, if_pos h0]; rfl
    · rw [if_neg h0, if_neg h0]
      by_cases h : e = q
      · rw [if_pos h, if_pos h]; rfl
      · rw [if_neg h, if_neg h]
        by_cases h2 : e' = q
        · rw [if_pos h2, if_pos h2]; rfl
        · rw [if_neg h2, if_neg h2]
  have key : ∀ q X, lkE ((f, some (Ent.box et bl')) :: (e, some (Ent.row c τ l)) :: (e', none) :: E) q = some X → (q = f ∧ X = Ent.box et bl') ∨ (q = e ∧ X = Ent.row c τ l) ∨ (q ≠ e ∧ q ≠ e' ∧ q ≠ f ∧ lkE E q = some X) := fun q X hX => by
    rw [hlk] at hX
    split at hX
    · rename_i h; cases hX; exact .inl ⟨h.symm, rfl⟩
    · split at hX
      · rename_i h; cases hX; exact .inr (.inl ⟨h.symm, rfl⟩)
      · split at hX
        · cases hX
        · rename_i h0 h h2; exact .inr (.inr ⟨Ne.symm h, Ne.symm h2, Ne.symm h0, hX⟩)
  -- the source of a footprint: an old entry
  let src : Nat → Nat := fun q => if q = e then e' else q
  have hsrc : ∀ q X, lkE ((f, some (Ent.box et bl')) :: (e, some (Ent.row c τ l)) :: (e', none) :: E) q = some X → ∃ Y, lkE E (src q) = some Y := fun q X hX => by
    rcases key q X hX with ⟨rfl, rfl⟩ | ⟨rfl, rfl⟩ | ⟨n1, n2, n3, hX'⟩
    · exact ⟨_, by simp only [src, if_neg hfn]; exact hB⟩
    · exact ⟨_, by simp only [src, if_pos]; exact hE⟩
    · exact ⟨_, by simp only [src, if_neg n1]; exact hX'⟩
  have hinj : ∀ q p X Y, lkE ((f, some (Ent.box et bl')) :: (e, some (Ent.row c τ l)) :: (e', none) :: E) q = some X → lkE ((f, some (Ent.box et bl')) :: (e, some (Ent.row c τ l)) :: (e', none) :: E) p = some Y → q ≠ p → src q ≠ src p := fun q p X Y hX hY hn => by
    have nq : q ≠ e' := by
      rcases key q X hX with ⟨rfl, _⟩ | ⟨rfl, _⟩ | ⟨_, n2, _, _⟩
      · exact hfe'
      · exact hne
      · exact n2
    have np : p ≠ e' := by
      rcases key p Y hY with ⟨rfl, _⟩ | ⟨rfl, _⟩ | ⟨_, n2, _, _⟩
      · exact hfe'
      · exact hne
      · exact n2
    simp only [src]
    split <;> split
    · rename_i a1 a2; exact absurd (a1.trans a2.symm) hn
    · exact fun h => np h.symm
    · exact nq
    · exact hn
  refine ⟨setE β e (β e'), u, fun q k => F (src q) k, h1, h2, fun t' X hX => ?_, ⟨fun q X hX => ?_, fun q X k hX hk => ?_, fun q p X Y k hX hY hn hk hk' => ?_⟩, h5, fun q X k hX hk => ?_, fun q hq => (hb q (fun h => hfr.2.2 (h ▸ hq))).trans (h7 q hq)⟩
  · obtain ⟨v, q1, q2⟩ := h3 t' X hX
    exact ⟨v, q1, X.ext (fun q hq => hb q (fun h => hfr.1 (h ▸ lk_base hX q hq))) q2⟩
  · rcases key q X hX with ⟨rfl, rfl⟩ | ⟨rfl, rfl⟩ | ⟨n1, n2, n3, hX'⟩
    · rw [hb _ hfn, show (fun k => F (src q) k) = F q from funext fun k => by simp only [src, if_neg hfn]]
      obtain ⟨b, cs, k1, k2, k3, k4⟩ := h4.hold _ _ hB
      exact ⟨b, cs, k1, k2, k3, hr.cells k4⟩
    · rw [setE_same, show (fun k => F (src q) k) = F e' from funext fun k => by simp only [src, if_pos]]
      exact (Ent.row c τ l).ext (fun q hq => by cases hq) (h4.hold e' _ hE)
    · rw [hb q n1, show (fun k => F (src q) k) = F q from funext fun k => by simp only [src, if_neg n1]]
      exact X.ext (fun p hp => hb p (fun h => hfr.2.1 (h ▸ (lkE_base hX').2 p hp))) (h4.hold q X hX')
  · obtain ⟨Y, hY⟩ := hsrc q X hX
    exact h4.dead _ Y k hY hk
  · obtain ⟨X', hX'⟩ := hsrc q X hX
    obtain ⟨Y', hY'⟩ := hsrc p Y hY
    exact h4.apart _ _ X' Y' k hX' hY' (hinj q p X Y hX hY hn) hk hk'
  · obtain ⟨Y, hY⟩ := hsrc q X hX
    exact h6 _ Y k hY hk)
end
section
variable {P : Program} {ops : Array Oper} {fin : List OpS → List (Nat × T) → List (Nat × Option Ent) → Prop} {r : List Oper} {H : List OpS} {g : List (Nat × T)} {E : List (Nat × Option Ent)} {o : Oper}
variable {t : Option Nat} {ty : TypeId} {ps : String} {af : Array Edge} {gd : Option (Nat × Bool)} {x y : Operand} {X Y : T} {e off m n : Nat} {b : Bool} {et : TypeId}
variable {α : Type} {c : Cod α} {xs ys : List α}
end
/-- A nil slice in a box is a row. -/
def NilC (e : Nat) : List T → List T → Prop
  | [], [] => True
  | X :: r, Y :: s => ((X = Y ∧ e ∉ X.ns) ∨ (X = T.c (.slice none 0 0) ∧ Y = T.o e)) ∧ NilC e r s
  | _, _ => False
theorem NilC.cells {e : Nat} {β : Env} {u : World} : ∀ {l l' : List T} {cs : List Value}, NilC e l l' → Cells β u l cs → Cells (setE β e (.slice none 0 0)) u l' cs
  | [], [], _, _, h => h
  | X :: r, Y :: s, cs, ⟨k1, k2⟩, ⟨v, rest, h0, h1, he, h2⟩ => by
    refine ⟨v, rest, ?_, ?_, he, NilC.cells k2 h2⟩
    · rcases k1 with ⟨rfl, _⟩ | ⟨_, rfl⟩
      · exact h0
      · show (1 : Nat) ≠ 0; omega
    · rcases k1 with ⟨rfl, hn⟩ | ⟨rfl, rfl⟩
      · exact X.ext (fun q hq => setE_ne _ _ (fun h => hn (h ▸ hq))) h1
      · exact ⟨by rw [setE_same]; exact h1, _, _, _, h1⟩
  | [], _ :: _, _, h, _ => h.elim
  | _ :: _, [], _, h, _ => h.elim
theorem tri_nilb {P : Program} {x : Code} {Q : Exit → Act → World → Prop} {ctx : Ctx} {n : Nat} {g : List (Nat × T)} {E : List (Nat × Option Ent)} {α : Type} (c : Cod α) {et : TypeId} (τ : TypeId) {bl bl' : List T} (f e : Nat) (hB : lkE E f = some (Ent.box et bl)) (hr : NilC e bl bl') (hf : ((nsOf g ++ nsE E ++ ctx.I).contains e) = false) (h : Tri P x Q ctx n g ((f, some (Ent.box et bl')) :: (e, some (Ent.row c τ [])) :: E)) : Tri P x Q ctx n g E := fun a w hS => h a w (by
  obtain ⟨β, u, F, h1, h2, h3, h4, h5, h6, h7⟩ := hS
  have hfr : e ∉ nsOf g ∧ e ∉ nsE E ∧ e ∉ ctx.I := by
    simp only [List.contains_eq_mem, decide_eq_false_iff_not, List.mem_append, not_or] at hf
    exact ⟨hf.1.1, hf.1.2, hf.2⟩
  have hfn : f ≠ e := fun h => hfr.2.1 (h ▸ (lkE_base hB).1)
  have hb : ∀ q, q ≠ e → setE β e (.slice none 0 0) q = β q := fun q hne => setE_ne _ _ hne
  have hlk : ∀ q, lkE ((f, some (Ent.box et bl')) :: (e, some (Ent.row c τ [])) :: E) q = if f = q then some (Ent.box et bl') else if e = q then some (Ent.row c τ []) else lkE E q := fun q => by
    unfold lkE
    rw [lk_cons, lk_cons]
    by_cases h0 : f = q
    · rw [if_pos h0, if_pos h0]; rfl
    · rw [if_neg h0, if_neg h0]
      by_cases h : e = q
      · rw [if_pos h, if_pos h]; rfl
      · rw [if_neg h, if_neg h]
  have key : ∀ q X, lkE ((f, some (Ent.box et bl')) :: (e, some (Ent.row c τ [])) :: E) q = some X → (q = f ∧ X = Ent.box et bl') ∨ (q = e ∧ X = Ent.row c τ []) ∨ (q ≠ e ∧ q ≠ f ∧ lkE E q = some X) := fun q X hX => by
    rw [hlk] at hX
    split at hX
    · rename_i h; cases hX; exact .inl ⟨h.symm, rfl⟩
    · split at hX
      · rename_i h; cases hX; exact .inr (.inl ⟨h.symm, rfl⟩)
      · rename_i h0 h; exact .inr (.inr ⟨Ne.symm h, Ne.symm h0, hX⟩)
  have old : ∀ q X, lkE ((f, some (Ent.box et bl')) :: (e, some (Ent.row c τ [])) :: E) q = some X → q ≠ e → ∃ Y, lkE E q = some Y := fun q X hX hn => by
    rcases key q X hX with ⟨rfl, rfl⟩ | ⟨h, _⟩ | ⟨_, _, hX'⟩
    · exact ⟨_, hB⟩
    · exact absurd h hn
    · exact ⟨_, hX'⟩
  refine ⟨setE β e (.slice none 0 0), u, fun q k => F q k ∧ q ≠ e, h1, h2, fun t' X hX => ?_, ⟨fun q X hX => ?_, fun q X k hX hk => ?_, fun q p X Y k hX hY hn hk hk' => ?_⟩, h5, fun q X k hX hk => ?_, fun q hq => (hb q (fun h => hfr.2.2 (h ▸ hq))).trans (h7 q hq)⟩
  · obtain ⟨v, q1, q2⟩ := h3 t' X hX
    exact ⟨v, q1, X.ext (fun q hq => hb q (fun h => hfr.1 (h ▸ lk_base hX q hq))) q2⟩
  · rcases key q X hX with ⟨rfl, rfl⟩ | ⟨rfl, rfl⟩ | ⟨n1, n3, hX'⟩
    · rw [hb _ hfn, show (fun k => F q k ∧ q ≠ e) = F q from funext fun k => by simp [hfn]]
      obtain ⟨b, cs, k1, k2, k3, k4⟩ := h4.hold _ _ hB
      exact ⟨b, cs, k1, k2, k3, hr.cells k4⟩
    · rw [setE_same]
      exact ⟨[], World.ownsRow_nil _ _ _ _, rfl, fun k => ⟨fun h => absurd rfl h.2, fun h => by cases h⟩⟩
    · rw [hb q n1, show (fun k => F q k ∧ q ≠ e) = F q from funext fun k => by simp [n1]]
      exact X.ext (fun p hp => hb p (fun h => hfr.2.1 (h ▸ (lkE_base hX').2 p hp))) (h4.hold q X hX')
  · obtain ⟨Y, hY⟩ := old q X hX hk.2
    exact h4.dead q Y k hY hk.1
  · obtain ⟨X', hX'⟩ := old q X hX hk.2
    obtain ⟨Y', hY'⟩ := old p Y hY hk'.2
    exact h4.apart q p X' Y' k hX' hY' hn hk.1 hk'.1
  · obtain ⟨Y, hY⟩ := old q X hX hk.2
    exact h6 q Y k hY hk.1)
end Go.Proofs.YtekghdfbhbhigaaGreat.V
/- Data of rows: what the program reckons, and how large it grows. -/
set_option linter.unusedVariables false
namespace Go.Proofs.YtekghdfbhbhigaaGreat.V
open Mt Nml
/-- The sum of products, so far. -/
def dotU (xs ys : List Int) : Nat → Int
  | 0 => 0
  | i + 1 => dotU xs ys i + xs.getD i 0 * ys.getD i 0
def stepU (D Lr row : List Int) (k : Nat) (u : Int) : Int := Int.fdiv (D.getD (k + 1) 0 * u - row.getD k 0 * Lr.getD k 0) (D.getD k 0)
def redU (D Lr row : List Int) (u : Int) : Nat → Int
  | 0 => u
  | k + 1 => stepU D Lr row k (redU D Lr row u k)
def pickL (L : List (List Int)) (row : List Int) (i j : Nat) : List Int := if j < i then L.getD j [] else row
def rowU (b : List (List Int)) (D : List Int) (L : List (List Int)) (i : Nat) : Nat → List Int
  | 0 => []
  | j + 1 => rowU b D L i j ++ [redU D (pickL L (rowU b D L i j) i j) (rowU b D L i j) (dotU (b.getD i []) (b.getD j []) (b.getD i []).length) j]
/-- How large. -/
def bd (S k : Nat) : Nat := (S + 1) * 2 ^ k - 1
theorem bd_succ (S k : Nat) : bd S (k + 1) = 2 * bd S k + 1 := by
  have h : 1 ≤ (S + 1) * 2 ^ k := Nat.mul_pos (by omega) (Nat.two_pow_pos k)
  unfold bd
  rw [Nat.pow_succ, ← Nat.mul_assoc]
  omega
theorem bd_zero (S : Nat) : bd S 0 = S := by unfold bd; omega
theorem zl_add_max {a b : Int} {k : Nat} (h : zl a ≤ k) (h' : zl b ≤ k) : zl (a + b) ≤ k + 1 := by
  unfold zl at *
  refine Nat.le_trans (lim_mono (Int.natAbs_add_le a b)) (lim_le ?_)
  have h1 := lt_B_lim a.natAbs
  have h2 := lt_B_lim b.natAbs
  have m1 := B_mono h
  have m2 := B_mono h'
  rw [B_succ]
  have := B_pos k
  omega
theorem zl_sub_max {a b : Int} {k : Nat} (h : zl a ≤ k) (h' : zl b ≤ k) : zl (a - b) ≤ k + 1 := by rw [Int.sub_eq_add_neg]; exact zl_add_max h (zl_neg h')
theorem zl_fdiv {x y : Int} {k : Nat} (hy : 0 < y) (h : zl x ≤ k) : zl (Int.fdiv x y) ≤ k := by rw [Int.fdiv_eq_ediv_of_nonneg _ (by omega)]; exact zl_div y h
theorem stepU_bd {D Lr row : List Int} {k : Nat} {u : Int} {S : Nat} (hp : 0 < D.getD k 0) (h1 : zl (D.getD (k + 1) 0) ≤ bd S k) (h2 : zl u ≤ bd S k) (h3 : zl (row.getD k 0) ≤ bd S k) (h4 : zl (Lr.getD k 0) ≤ bd S k) : zl (stepU D Lr row k u) ≤ bd S (k + 1) := by
  rw [bd_succ, Nat.two_mul]
  exact zl_fdiv hp (zl_sub_max (zl_mul h1 h2) (zl_mul h3 h4))
theorem gl_lt {α : Type} {l : List α} {x d : α} {k : Nat} (h : k < l.length) : (l ++ [x]).getD k d = l.getD k d := by
  rw [List.getD_eq_getElem?_getD, List.getElem?_append_left h, List.getD_eq_getElem?_getD]
theorem gl_eq {α : Type} {l : List α} {x d : α} {k : Nat} (h : k = l.length) : (l ++ [x]).getD k d = x := by
  subst h
  rw [List.getD_eq_getElem?_getD, List.getElem?_append_right (Nat.le_refl _), Nat.sub_self]; rfl
theorem take_getD {l : List Int} {i k : Nat} (h : k < i) : (l.take i).getD k 0 = l.getD k 0 := by
  rw [List.getD_eq_getElem?_getD, List.getElem?_take, if_pos h, List.getD_eq_getElem?_getD]
/-- What is so of the data of the first rows. -/
structure BI (S i : Nat) (D : List Int) (L : List (List Int)) : Prop where
  hD : D.length = i + 1
  hL : L.length = i
  pos : ∀ k, k ≤ i → 0 < D.getD k 0
  bD : ∀ k, k < i → zl (D.getD (k + 1) 0) ≤ bd S k
  lL : ∀ j, j < i → (L.getD j []).length = j
  bL : ∀ j k, j < i → k < j → zl ((L.getD j []).getD k 0) ≤ bd S k
/-- What is so of the next row, so far. -/
structure RI (S j : Nat) (row : List Int) : Prop where
  len : row.length = j
  bd : ∀ k, k < j → zl (row.getD k 0) ≤ bd S k
theorem BI.zero (S : Nat) : BI S 0 [1] [] := ⟨rfl, rfl, fun k hk => by rw [show k = 0 by omega]; decide, fun k hk => absurd hk (Nat.not_lt_zero _), fun k hk => absurd hk (Nat.not_lt_zero _), fun j k hj => absurd hj (Nat.not_lt_zero _)⟩
theorem RI.zero (S : Nat) : RI S 0 [] := ⟨rfl, fun k hk => absurd hk (Nat.not_lt_zero _)⟩
theorem RI.snoc {S j : Nat} {row : List Int} {u : Int} (h : RI S j row) (hu : zl u ≤ V.bd S j) : RI S (j + 1) (row ++ [u]) := ⟨by rw [List.length_append, h.len]; rfl, fun k hk => by
  rcases Nat.lt_or_ge k j with h1 | h1
  · rw [gl_lt (by rw [h.len]; exact h1)]; exact h.bd k h1
  · rw [gl_eq (by rw [h.len]; omega), show k = j by omega]; exact hu⟩
theorem red_bd {S i j k : Nat} {D : List Int} {L : List (List Int)} {row : List Int} {u : Int} (hB : BI S i D L) (hR : RI S j row) (hj : j ≤ i) (hu : zl u ≤ S) : k ≤ j → zl (redU D (pickL L row i j) row u k) ≤ V.bd S k := by
  induction k with
  | zero => intro _; rw [bd_zero]; exact hu
  | succ k ih =>
    intro hk
    refine stepU_bd (hB.pos k (by omega)) (hB.bD k (by omega)) (ih (by omega)) (hR.bd k (by omega)) ?_
    unfold pickL
    split
    · exact hB.bL j k (by assumption) (by omega)
    · exact hR.bd k (by omega)
theorem BI.step {S i : Nat} {D : List Int} {L : List (List Int)} {row : List Int} (h : BI S i D L) (hR : RI S (i + 1) row) (hp : 0 < row.getD i 0) : BI S (i + 1) (D ++ [row.getD i 0]) (L ++ [row.take i]) := by
  refine ⟨by rw [List.length_append, h.hD]; rfl, by rw [List.length_append, h.hL]; rfl, fun k hk => ?_, fun k hk => ?_, fun j hj => ?_, fun j k hj hk => ?_⟩
  · rcases Nat.lt_or_ge k (i + 1) with h1 | h1
    · rw [gl_lt (by rw [h.hD]; exact h1)]; exact h.pos k (by omega)
    · rw [gl_eq (by rw [h.hD]; omega)]; exact hp
  · rcases Nat.lt_or_ge k i with h1 | h1
    · rw [gl_lt (by rw [h.hD]; omega)]; exact h.bD k h1
    · rw [gl_eq (by rw [h.hD]; omega), show k = i by omega]; exact hR.bd i (by omega)
  · rcases Nat.lt_or_ge j i with h1 | h1
    · rw [gl_lt (by rw [h.hL]; exact h1)]; exact h.lL j h1
    · rw [gl_eq (by rw [h.hL]; omega), List.length_take, hR.len]; omega
  · rcases Nat.lt_or_ge j i with h1 | h1
    · rw [gl_lt (by rw [h.hL]; exact h1)]; exact h.bL j k h1 hk
    · rw [gl_eq (by rw [h.hL]; omega), take_getD (by omega)]; exact hR.bd k (by omega)
end Go.Proofs.YtekghdfbhbhigaaGreat.V
/- Contracts: what the law calls, sums of products. -/
set_option linter.unusedVariables false
set_option linter.unusedSimpArgs false
set_option maxRecDepth 100000
namespace Go.Proofs.YtekghdfbhbhigaaGreat.V
open Go.RowKit Mt Nml
section
variable {P : Program} {x : Code} {Q : Exit → Act → World → Prop} {ctx : Ctx} {n : Nat} {g : List (Nat × T)} {E : List (Nat × Option Ent)}
theorem tri_z (t : Nat) {z : Int} {k : Nat} (ht : lk g t = some (T.Z z k)) (h : zl z ≤ k → Tri P x Q ctx n g E) : Tri P x Q ctx n g E := fun a w hS => by
  have hS' := hS
  obtain ⟨β, u, F, h1, h2, h3, _⟩ := hS'
  obtain ⟨v, _, _, hz, _⟩ := h3 t _ ht
  exact h hz a w hS
end
theorem box_pack1 {et : TypeId} {X Y : T} (h : X.le Y) (h0 : X.sz = Y.sz := by rfl) : (Ent.box et [X]).le (Ent.box et [Y]) := fun β u w v F ⟨b, cs, h1, h2, h3, h4⟩ => ⟨b, cs, h1, h2, h3, cells_le h4 ⟨h, trivial⟩ (by simp [h0])⟩

end Go.Proofs.YtekghdfbhbhigaaGreat.V
/- The data of rows. -/
set_option linter.unusedVariables false
set_option linter.unusedSimpArgs false
set_option maxRecDepth 100000
namespace Go.Proofs.YtekghdfbhbhigaaGreat.V
open Go.RowKit Mt Nml
instance (k : Nat) (z : Int) : IsZ ((cZ k).X z) z k := inferInstanceAs (IsZ (T.Z z k) z k)
instance (k : Nat) (z : Int) : IsZ ((cZi k).X z) z k := inferInstanceAs (IsZ (T.Zi z k) z k)
/-- A row in a box that is written to no more. -/
def RdC (e : Nat) (X' : T) : List T → List T → Prop
  | [], [] => True
  | X :: r, Y :: s => (X = Y ∨ (X = T.o e ∧ Y = X')) ∧ RdC e X' r s
  | _, _ => False
theorem RdC.cells {e : Nat} {X' : T} {β : Env} {u : World} (h0 : X'.sz ≠ 0) (h : ∀ v, v = β e → X'.rep β u v) : ∀ {l l' : List T} {cs : List Value}, RdC e X' l l' → Cells β u l cs → Cells β u l' cs
  | [], [], _, _, h => h
  | X :: r, Y :: s, cs, ⟨k1, k2⟩, ⟨v, rest, h1, h2, he, h3⟩ => by
    rcases k1 with rfl | ⟨rfl, rfl⟩
    · exact ⟨v, rest, h1, h2, he, RdC.cells h0 h k2 h3⟩
    · exact ⟨v, rest, h0, h v h2.1, he, RdC.cells h0 h k2 h3⟩
  | [], _ :: _, _, h, _ => h.elim
  | _ :: _, [], _, h, _ => h.elim
section
variable {P : Program} {x : Code} {Q : Exit → Act → World → Prop} {ctx : Ctx} {n : Nat} {g : List (Nat × T)} {E : List (Nat × Option Ent)}
theorem tri_rdb {α : Type} {c : Cod α} {l : List α} {et : TypeId} {bl bl' : List T} (f e : Nat) (hE : lkE E e = some (Ent.frz c l)) (hB : lkE E f = some (Ent.box et bl)) (hr : RdC e (T.l c l) bl bl') (h : Tri P x Q ctx n g ((f, some (Ent.box et bl')) :: E)) : Tri P x Q ctx n g E := fun a w hS => h a w (by
  obtain ⟨β, u, F, h1, h2, h3, h4, h5, h6, h7⟩ := hS
  have hlk : ∀ q, lkE ((f, some (Ent.box et bl')) :: E) q = if f = q then some (Ent.box et bl') else lkE E q := fun q => by
    unfold lkE
    rw [lk_cons]
    by_cases h0 : f = q
    · rw [if_pos h0, if_pos h0]; rfl
    · rw [if_neg h0, if_neg h0]
  have old : ∀ q X, lkE ((f, some (Ent.box et bl')) :: E) q = some X → ∃ Y, lkE E q = some Y := fun q X hX => by
    rw [hlk] at hX
    split at hX
    · rename_i h; subst h; exact ⟨_, hB⟩
    · exact ⟨_, hX⟩
  refine ⟨β, u, F, h1, h2, h3, ⟨fun q X hX => ?_, fun q X k hX hk => ?_, fun q p X Y k hX hY hn hk hk' => ?_⟩, h5, fun q X k hX hk => ?_, h7⟩
  · rw [hlk] at hX
    split at hX
    · rename_i hq
      subst hq
      cases hX
      obtain ⟨b, cs, k1, k2, k3, k4⟩ := h4.hold _ _ hB
      have hfz := (h4.hold e _ hE).2
      exact ⟨b, cs, k1, k2, k3, RdC.cells (by show (1 : Nat) ≠ 0; omega) (fun v hv => (T.l c l).ext (β := B0) (fun _ h => by cases h) (by rw [hv]; exact hfz)) hr k4⟩
    · exact h4.hold q X hX
  · obtain ⟨Y, hY⟩ := old q X hX; exact h4.dead q Y k hY hk
  · obtain ⟨X', hX'⟩ := old q X hX
    obtain ⟨Y', hY'⟩ := old p Y hY
    exact h4.apart q p X' Y' k hX' hY' hn hk hk'
  · obtain ⟨Y, hY⟩ := old q X hX; exact h6 q Y k hY hk)
end

end Go.Proofs.YtekghdfbhbhigaaGreat.V
/- What a basis is; the law is awake. -/
set_option linter.unusedVariables false
set_option linter.unusedSimpArgs false
set_option maxRecDepth 100000
namespace Go.Proofs.YtekghdfbhbhigaaGreat.V
open Go.RowKit Mt Nml
/-- The most bits. -/
def mxB (l : List Int) (a : Nat) : Nat → Nat
  | 0 => a
  | j + 1 => max (mxB l a j) (nbits (l.getD j 0).natAbs)
def matB (b : List (List Int)) : Nat → Nat
  | 0 => 0
  | i + 1 => mxB (b.getD i []) (matB b i) (b.getD i []).length

end Go.Proofs.YtekghdfbhbhigaaGreat.V
/- The law of the parts of data. -/
set_option linter.unusedVariables false
set_option linter.unusedSimpArgs false
set_option maxRecDepth 100000
namespace Go.Proofs.YtekghdfbhbhigaaGreat.V
open Go.RowKit Mt Nml
end Go.Proofs.YtekghdfbhbhigaaGreat.V
/- What is read of the arguments of a law: whole numbers, lists of them, lists of lists, data of rows. -/
set_option linter.unusedVariables false
set_option linter.unusedSimpArgs false
namespace Go.Proofs.YtekghdfbhbhigaaGreat.V
open Go.Deep Go.ChangeShapes Go.WideShapes Go.ChangeAt Go.RowKit Mt Nml

theorem cells_one {β : Env} {u : World} {X : T} {v : Value} (h0 : X.sz ≠ 0) (h : X.rep β u v) : Cells β u [X] v.cells.toList := ⟨v, [], h0, h, by simp, rfl⟩
theorem addr_add_add (a : Addr) (m n : Nat) : (a.add m).add n = a.add (m + n) := by
  unfold Addr.add
  by_cases h : m = 0
  · subst h; simp
  · by_cases h2 : n = 0
    · subst h2; simp [h]
    · simp [h, h2, Nat.add_assoc]
theorem read_list {α : Type} (c : Cod α) {W : World} {base : Nat} {a : Addr} : ∀ {len : Nat}, (∀ i, i < len → ∃ z cs' v, W.cells? base (a.add (i * c.sz)) c.sz = some cs' ∧ v.cells.toList = cs' ∧ (c.X z).rep B0 W v) → ∃ l : List α, l.length = len ∧ ∃ xs, Els c l W xs ∧ Stand W a xs ∧ xs.length = len * c.sz
  | 0, _ => ⟨[], rfl, [], rfl, fun j v h => by simp at h, by simp⟩
  | len + 1, hx => by
    obtain ⟨l, hl, xs, hE, hS, hn⟩ := read_list c (len := len) (fun i hi => hx i (by omega))
    obtain ⟨z, cs', v, h1, h2, h3⟩ := hx len (by omega)
    obtain ⟨_, k1, k2⟩ := World.cells?_some h1
    refine ⟨l ++ [z], by rw [List.length_append, hl]; rfl, xs ++ cs', ?_, fun j y hy => ?_, by rw [List.length_append, hn, k1, Nat.succ_mul]⟩
    · show Cells B0 W ((l ++ [z]).map c.X) (xs ++ cs')
      rw [List.map_append, ← h2]
      exact Cells.append hE (cells_one (by rw [c.sz0]; exact c.pos) h3)
    · rcases Nat.lt_or_ge j xs.length with h | h
      · rw [List.getElem?_append_left h] at hy; exact hS j y hy
      · obtain ⟨d, rfl⟩ : ∃ d, j = xs.length + d := ⟨j - xs.length, by omega⟩
        rw [List.getElem?_append_right h, Nat.add_sub_cancel_left] at hy
        have hj : d < c.sz := by rw [← k1]; exact (List.getElem?_eq_some_iff.1 hy).1
        have := k2 d hj
        rw [hy] at this
        rw [← this, hn]
        rw [← addr_add_add]
section
variable {H : Type} {enc : TypeId × Value → H} {W : World} {base : Nat} {spare : Nat → Bool} {held : Bool} {fuel : Nat} {cs : List Value} {x : DataW H × List MemPlace}
theorem bulk_pos (d : DataW H) : 1 ≤ Rows.uptoBulk d := by
  cases d with
  | lit l => cases l <;> simp [Rows.uptoBulk]
  | _ => simp [Rows.uptoBulk]
theorem bulk_all : ∀ {l : List (DataW H)}, l.length ≤ Rows.uptoBulkAll l
  | [] => Nat.zero_le _
  | d :: r => by
    have h1 := bulk_pos d
    have h2 := bulk_all (l := r)
    show r.length + 1 ≤ Rows.uptoBulk d + Rows.uptoBulkAll r
    omega
theorem bulk_mem : ∀ {l : List (DataW H)} {d : DataW H}, d ∈ l → Rows.uptoBulk d ≤ Rows.uptoBulkAll l
  | d' :: r, d, h => by
    show _ ≤ Rows.uptoBulk d' + Rows.uptoBulkAll r
    rcases List.mem_cons.1 h with h | h
    · subst h; omega
    · have := bulk_mem h; omega
theorem bulk_lits (k : IntKind) : ∀ l : List Int, Rows.uptoBulkAll (H := H) (lits k l) = l.length
  | [] => rfl
  | a :: l => by
    show Rows.uptoBulk (DataW.lit (H := H) (.int k a)) + Rows.uptoBulkAll (lits k l) = _
    rw [bulk_lits k l, List.length_cons]
    show 1 + l.length = _
    omega
theorem read_lims (h : DataW.trod enc Tryz.prog W base spare held fuel 30 cs = some x) : ∃ v xs, cs = [v] ∧ (T.l cU xs).rep B0 W v ∧ Lim xs ∧ xs.length ≤ Rows.uptoBulk x.1 := by
  rcases open_ints Tryz.underlying30 Tryz.underlying119 (by kernel_rfl) h with ⟨rfl, rfl⟩ | ⟨a, len, cap, zs, rfl, _, hl, hm, hz, rfl, hcell, hwz⟩
  · exact ⟨_, [], rfl, nil_l cU _ _ _ rfl, Lim.nil, Nat.zero_le _⟩
  · have hz' : len ≤ zs.length := by rw [hz]; split <;> omega
    have hb : (zs.take len).length = len := by rw [List.length_take]; omega
    have hlim : Lim (zs.take len) := fun z hz0 => by
      have := hwz z (List.mem_of_mem_take hz0)
      have e0 : IntKind.u32.min = 0 := by kernel_rfl
      have e1 : IntKind.u32.max = 4294967295 := by kernel_rfl
      simp [Lit.wf] at this
      constructor <;> omega
    refine ⟨_, zs.take len, rfl, ⟨some a, len, cap, rfl, hb, hl, by unfold maxLen at hm; omega, fun hp => ⟨a, rfl, _, els_cU _ _, fun j y hy => ?_⟩⟩, hlim, ?_⟩
    · rw [List.getElem?_map, Option.map_eq_some_iff] at hy
      obtain ⟨z, h1, rfl⟩ := hy
      have hj : j < len := by rw [← hb]; exact (List.getElem?_eq_some_iff.1 h1).1
      rw [hcell j (by omega), List.getD_eq_getElem?_getD, ← List.getElem?_take_of_lt hj, h1]; rfl
    · show _ ≤ Rows.uptoBulkAll (lits .u32 (zs.take len)) + _ + 1
      rw [bulk_lits]; omega
set_option maxRecDepth 100000 in
theorem read_Zi {k : Nat} (h : DataW.trod enc Tryz.prog W base spare held fuel 32 cs = some x) (hk : Rows.uptoBulk x.1 ≤ k) : ∃ z, (T.Zi z k).rep B0 W (.agg cs.toArray) := by
  obtain ⟨y0, y1, m, rfl, hl, h0, h1⟩ := trod_struct2 Tryz.underlying32 h
  have hl2 : cs.length = 2 := hl.trans (by kernel_rfl)
  match cs, hl2 with
  | [c0, c1], _ =>
    obtain ⟨s, e0, _⟩ := DataW.trod_bool Tryz.underlying4 h0
    obtain ⟨v, xs, e1, hr, hli, hn⟩ := read_lims h1
    have k0 : (([c0, c1] : List Value).drop 0).take (Tryz.prog.cellsOf 4) = [c0] := by rw [show Tryz.prog.cellsOf 4 = 1 from by kernel_rfl]; rfl
    have k1 : (([c0, c1] : List Value).drop 1).take (Tryz.prog.cellsOf 30) = [c1] := by rw [show Tryz.prog.cellsOf 30 = 1 from by kernel_rfl]; rfl
    have e0' : [c0] = [Value.bool s] := k0.symm.trans e0
    have e1' : [c1] = [v] := k1.symm.trans e1
    cases e0'
    cases e1'
    have hk' : Rows.uptoBulk y1.1 ≤ k := by
      have : Rows.uptoBulk y0.1 + (Rows.uptoBulk y1.1 + 0) + 1 ≤ k := hk
      omega
    refine ⟨_, (s, xs), ⟨hli, rfl, Nat.le_trans hn hk'⟩, [.bool s, c1], rfl, .bool s, [c1], by show (1 : Nat) ≠ 0; omega, rfl, rfl, c1, [], by show (1 : Nat) ≠ 0; omega, hr, ?_, rfl⟩
    obtain ⟨A, n, q, rfl, _⟩ := hr
    rfl
theorem read_ints {k : Nat} (h : DataW.trod enc Tryz.prog W base spare held fuel 23 cs = some x) (hk : Rows.uptoBulk x.1 ≤ k) : ∃ v l, cs = [v] ∧ (T.l (cZi k) l).rep B0 W v ∧ l.length ≤ Rows.uptoBulk x.1 := by
  rcases open_slice Tryz.underlying23 h with ⟨rfl, rfl⟩ | ⟨a, len, cap, m, n, D, Pl, rfl, hb, hl, hm, hmm, rfl, hx⟩
  · exact ⟨_, [], rfl, nil_l _ _ _ _ rfl, Nat.zero_le _⟩
  · have hml : len ≤ m := by rw [hmm]; split <;> omega
    have hbl : len ≤ Rows.uptoBulkAll ((List.range len).map D) := by have := bulk_all (l := (List.range len).map D); simpa using this
    have hbk : Rows.uptoBulkAll ((List.range len).map D) + Rows.uptoBulkAll ((List.range (m - len)).map fun j => D (len + j)) + 1 ≤ k := hk
    obtain ⟨l, h1, xs, h2, h3, h4⟩ := read_list (cZi k) (W := W) (base := base) (a := a) (len := len) (fun i hi => by
      obtain ⟨cs', k1, k2⟩ := hx i (by omega)
      rw [show Tryz.prog.cellsOf 32 = 2 from by kernel_rfl] at k1
      obtain ⟨z, hz⟩ := read_Zi (k := k) k2 (by have := bulk_mem (l := (List.range len).map D) (List.mem_map_of_mem (List.mem_range.2 hi)); show Rows.uptoBulk (D i) ≤ k; omega)
      exact ⟨z, cs', _, k1, rfl, hz⟩)
    refine ⟨_, l, rfl, ⟨some a, len, cap, rfl, h1, hl, by unfold maxLen at hm; omega, fun hp => ⟨a, rfl, xs, h2, h3⟩⟩, ?_⟩
    show _ ≤ Rows.uptoBulkAll ((List.range len).map D) + Rows.uptoBulkAll ((List.range (m - len)).map fun j => D (len + j)) + 1
    omega
theorem read_rows {k : Nat} (h : DataW.trod enc Tryz.prog W base spare held fuel 22 cs = some x) (hk : Rows.uptoBulk x.1 ≤ k) : ∃ v l, cs = [v] ∧ (T.l (cL (cZi k)) l).rep B0 W v ∧ l.length ≤ Rows.uptoBulk x.1 := by
  rcases open_slice Tryz.underlying22 h with ⟨rfl, rfl⟩ | ⟨a, len, cap, m, n, D, Pl, rfl, hb, hl, hm, hmm, rfl, hx⟩
  · exact ⟨_, [], rfl, nil_l _ _ _ _ rfl, Nat.zero_le _⟩
  · have hml : len ≤ m := by rw [hmm]; split <;> omega
    have hbl : len ≤ Rows.uptoBulkAll ((List.range len).map D) := by have := bulk_all (l := (List.range len).map D); simpa using this
    have hbk : Rows.uptoBulkAll ((List.range len).map D) + Rows.uptoBulkAll ((List.range (m - len)).map fun j => D (len + j)) + 1 ≤ k := hk
    obtain ⟨l, h1, xs, h2, h3, h4⟩ := read_list (cL (cZi k)) (W := W) (base := base) (a := a) (len := len) (fun i hi => by
      obtain ⟨cs', k1, k2⟩ := hx i (by omega)
      rw [show Tryz.prog.cellsOf 23 = 1 from by kernel_rfl] at k1
      obtain ⟨v, z, e, hz, _⟩ := read_ints (k := k) k2 (by have := bulk_mem (l := (List.range len).map D) (List.mem_map_of_mem (List.mem_range.2 hi)); show Rows.uptoBulk (D i) ≤ k; omega)
      subst e
      refine ⟨z, [v], v, k1, ?_, hz⟩
      obtain ⟨A, n, q, rfl, _⟩ := hz
      rfl)
    refine ⟨_, l, rfl, ⟨some a, len, cap, rfl, h1, hl, by unfold maxLen at hm; omega, fun hp => ⟨a, rfl, xs, h2, h3⟩⟩, ?_⟩
    show _ ≤ Rows.uptoBulkAll ((List.range len).map D) + Rows.uptoBulkAll ((List.range (m - len)).map fun j => D (len + j)) + 1
    omega
set_option maxRecDepth 100000 in
theorem read_Gso {k : Nat} (h : DataW.trod enc Tryz.prog W base spare held fuel 27 cs = some x) (hk : Rows.uptoBulk x.1 ≤ k) : ∃ D L, (T.G D L k).rep B0 W (.agg cs.toArray) ∧ D.length ≤ k ∧ L.length ≤ k := by
  obtain ⟨y0, y1, m, rfl, hl, h0, h1⟩ := trod_struct2 Tryz.underlying27 h
  have hl2 : cs.length = 2 := hl.trans (by kernel_rfl)
  have hk' : Rows.uptoBulk y0.1 + (Rows.uptoBulk y1.1 + 0) + 1 ≤ k := hk
  match cs, hl2 with
  | [c0, c1], _ =>
    obtain ⟨v, D, e0, hD, hDn⟩ := read_ints (k := k) h0 (by omega)
    obtain ⟨w, L, e1, hL, hLn⟩ := read_rows (k := k) h1 (by omega)
    have k0 : (([c0, c1] : List Value).drop 0).take (Tryz.prog.cellsOf 23) = [c0] := by rw [show Tryz.prog.cellsOf 23 = 1 from by kernel_rfl]; rfl
    have k1 : (([c0, c1] : List Value).drop 1).take (Tryz.prog.cellsOf 22) = [c1] := by rw [show Tryz.prog.cellsOf 22 = 1 from by kernel_rfl]; rfl
    have e0' : [c0] = [v] := k0.symm.trans e0
    have e1' : [c1] = [w] := k1.symm.trans e1
    cases e0'
    cases e1'
    refine ⟨D, L, ⟨[c0, c1], rfl, c0, [c1], by show (1 : Nat) ≠ 0; omega, hD, ?_, c1, [], by show (1 : Nat) ≠ 0; omega, hL, ?_, rfl⟩, by omega, by omega⟩
    · obtain ⟨A, n, q, rfl, _⟩ := hD; rfl
    · obtain ⟨A, n, q, rfl, _⟩ := hL; rfl
end
/-- A function that leaves what it found: what its caller sees. -/
theorem fn_calls_of {P : Program} {f : FuncId} {As : List T} {v : Value} (h : Fn P f As [] [] [] (T.c v)) {W : World} {vs : List Value} (hr : Reps B0 W As vs) : Calls P f vs.toArray W fun e w' => e = .returned v ∧ Below W.heap.size W w' :=
  (h vs B0 W W (fun _ _ => False) (Sub.refl W) hr (Hold.none _ _ _ _)).mono fun e w' ⟨v', he, u', β', F', h1, h2, h3, h4, h5⟩ => ⟨by rw [he, show v' = v from h5], ⟨h2.os, h2.tape, h2.output, h2.size, fun k hk => h2.block k hk (fun ⟨c, hc, _⟩ => by cases hc)⟩⟩
end Go.Proofs.YtekghdfbhbhigaaGreat.V
/- Shifts of whole numbers. -/
set_option linter.unusedVariables false
set_option linter.unusedSimpArgs false
set_option maxRecDepth 100000
namespace Go.Proofs.YtekghdfbhbhigaaGreat.V
open Go.RowKit Mt Nml
end Go.Proofs.YtekghdfbhbhigaaGreat.V
