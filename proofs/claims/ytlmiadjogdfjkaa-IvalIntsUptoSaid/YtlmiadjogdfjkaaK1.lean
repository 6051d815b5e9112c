/- Contracts of package nat. -/
import Derived.Test.YtlmiadjogdfjkaaVA
import Derived.Test.YtlmiadjogdfjkaaShelf
set_option linter.unusedVariables false
set_option linter.unusedSimpArgs false
set_option maxRecDepth 100000
namespace Go.Proofs.Ytlmiadjogdfjkaa.V
open Go.RowKit Mt Nml
theorem lim_val {xs : List Int} {N b : Nat} (hl : Lim xs) (hv : val xs = N) (hb : xs.length ≤ b) : lim N ≤ b := Nat.le_trans (lim_le (by rw [← hv]; exact val_lt hl)) hb
theorem getD_at (xs : List Int) (k : Nat) : xs.getD k cU.dflt = at_ xs k := rfl
theorem take_at {xs : List Int} {m k : Nat} (h : m < k) : (xs.take k).getD m cU.dflt = at_ xs m := by
  unfold at_; rw [List.getD_eq_getElem?_getD, List.getElem?_take, if_pos h, List.getD_eq_getElem?_getD]; rfl

theorem nat_trimL {xs : List Int} (hs : xs.length ≤ 4611686018427387904) : Fn Try.prog 92 [T.l cU xs] [] [] [] (T.l cU (xs.take (tl xs xs.length))) := by
  refine fn_of Try.func92 rfl (by show 1 ≤ 21; decide) fun cx hcx => ?_
  refine tri_sub (sl 0 rfl sn) en ?_
  refine tri_seq ?_
  refine tri_reg mixed hcx ?_ _ _
  refine asg rfl ?_
  refine ⟨by kernel_rfl, ?_⟩
  refine nx (sl 0 rfl sn) en ?_
  refine tri_seq ?_
  refine tri_block ?_
  refine tri_loop (ι := Nat) (fun k => [(0, T.l cU (xs.take k))]) (fun k => []) (fun k => k) (fun k => (k ≤ xs.length) ∧ (tl xs k = tl xs xs.length)) xs.length ⟨Nat.le_refl _, rfl⟩ (sw 0 rfl (.of (by rw [List.take_length])) sn) en ?_
  rintro k ⟨hk, ht⟩
  refine tri_sub (sl 0 rfl sn) en ?_
  refine tri_seq ?_
  refine tri_seq ?_
  rcases Nat.eq_zero_or_pos k with h0 | h0
  · subst h0
    refine tri_reg mixed hcx ?_ _ _
    refine mv rfl ?_
    refine ln slLs rfl ?_
    refine cgt rfl rfl (decide_eq_false (by simp)) ?_
    refine mv rfl ?_
    refine j_off rfl rfl rfl rfl ?_
    refine j_off rfl rfl rfl rfl ?_
    refine j_off rfl rfl rfl rfl ?_
    refine j_off rfl rfl rfl rfl ?_
    refine j_off rfl rfl rfl rfl ?_
    refine j_off rfl rfl rfl rfl ?_
    refine j_off rfl rfl rfl rfl ?_
    refine pk rfl rfl ?_
    refine ⟨by kernel_rfl, ?_⟩
    refine nx (sl 0 rfl (sl 14 rfl sn)) en ?_
    refine tri_false rfl rfl ?_
    refine tri_exit ?_
    repeat (first | refine pn_then ?_ | refine pn_oth (by decide) ?_)
    refine pn_ex ?_
    refine nx (sl 0 rfl sn) en ?_
    refine tri_seq ?_
    refine tri_reg mixed hcx ?_ _ _
    refine mv rfl ?_
    refine asg rfl ?_
    refine ⟨by kernel_rfl, ?_⟩
    refine nx (sl 2 rfl sn) en ?_
    refine tri_ret ?_
    repeat (first | refine pn_thenr ?_ | refine pn_blkr ?_)
    exact ret1 hcx rfl (rv_tmp rfl) (.of (by rw [← ht]; first | rfl | simp [tl, hc])) en
  · obtain ⟨m, rfl⟩ : ∃ m, k = m + 1 := ⟨k - 1, by omega⟩
    have hlen : (xs.take (m + 1)).length = m + 1 := by rw [List.length_take]; omega
    refine tri_reg mixed hcx ?_ _ _
    refine mv rfl ?_
    refine ln slLs rfl ?_
    refine cgt rfl rfl (decide_eq_true (by omega)) ?_
    refine mv rfl ?_
    refine mv rfl ?_ (hg := gd1)
    refine mv rfl ?_ (hg := gd1)
    refine ln slLs rfl ?_ (hg := gd1)
    refine sb ((m : Int)) rfl rfl rfl (by omega) ?_ (hg := gd1)
    refine ix rfl rfl slLs ⟨rfl, by omega⟩ ?_ (hg := gd1)
    refine lf rfl tyU32 ?_ (hg := gd1)
    refine ceq rfl rfl rfl ?_ (hg := gd1)
    refine pk rfl rfl ?_
    refine ⟨by kernel_rfl, ?_⟩
    refine nx (sl 0 rfl (sl 14 rfl sn)) en ?_
    refine tri_if rfl (fun hc => ?_) (fun hc => ?_)
    · rw [take_at (by omega)] at hc
      refine tri_skip ?_
      refine nx (sl 0 rfl sn) en ?_
      refine tri_block ?_
      refine tri_reg mixed hcx ?_ _ _
      refine mv rfl ?_
      refine mv rfl ?_
      refine ln slLs rfl ?_
      refine sb ((m : Int)) rfl rfl rfl (by omega) ?_
      refine sh rfl slLs rfl ⟨rfl, by omega⟩ ?_
      refine asg rfl ?_
      refine ⟨by kernel_rfl, ?_⟩
      refine pn_blk ?_
      exact pn_back m (by first | omega | (dsimp only; omega)) ⟨by omega, by rw [← ht]; simp [tl, hc]⟩ (sw 0 rfl (.of (by rw [List.take_take, Nat.min_eq_left (by omega)])) sn) en
    · rw [take_at (by omega)] at hc
      refine tri_exit ?_
      repeat (first | refine pn_then ?_ | refine pn_oth (by decide) ?_)
      refine pn_ex ?_
      refine nx (sl 0 rfl sn) en ?_
      refine tri_seq ?_
      refine tri_reg mixed hcx ?_ _ _
      refine mv rfl ?_
      refine asg rfl ?_
      refine ⟨by kernel_rfl, ?_⟩
      refine nx (sl 2 rfl sn) en ?_
      refine tri_ret ?_
      repeat (first | refine pn_thenr ?_ | refine pn_blkr ?_)
      exact ret1 hcx rfl (rv_tmp rfl) (.of (by rw [← ht]; first | rfl | simp [tl, hc])) en

theorem trim_dig {xs : List Int} {N : Nat} (hl : Lim xs) (hv : val xs = N) : xs.take (tl xs xs.length) = dig N := dig_of (hl.take _) (tl_can (Nat.le_refl _)) (by rw [tl_val (Nat.le_refl _), List.take_length, hv])
theorem nat_trim {N k : Nat} (hk : k ≤ 4611686018427387904) : Fn Try.prog 92 [T.L N k] [] [] [] (T.l cU (dig N)) := fn_ex (As := []) (Bs := []) fun xs ⟨h1, h2, h3⟩ => by
  rw [← trim_dig h1 h2]; exact nat_trimL (by omega)

theorem nat_Norm {N k : Nat} (hk : k ≤ 17592186044416) : Fn Try.prog 102 [T.L N k] [] [] [] (T.l cU (dig N)) := by
  refine fn_of Try.func102 rfl (by show 1 ≤ 6; decide) fun cx hcx => ?_
  refine tri_sub (sl 0 rfl sn) en ?_
  refine tri_ex 0 rfl fun xs ⟨hl, hv, hb⟩ => ?_
  have hN := lim_val hl hv hb; unfold lim at hN
  refine tri_seq ?_
  refine tri_reg mixed hcx ?_ _ _
  refine asg rfl ?_
  refine ⟨by kernel_rfl, ?_⟩
  refine nx (sl 0 rfl sn) en ?_
  refine tri_seq ?_
  refine tri_reg mixed hcx ?_ _ _
  refine mv rfl ?_
  refine ca rfl (h := nat_trim (by omega)) (hn := ?_)
  refine apn (c := cU) 112 rfl rfl slLs (by omega) (by decide) ?_
  refine asg rfl ?_
  refine ⟨by kernel_rfl, ?_⟩
  refine nx (sl 2 rfl sn) (el 112 rfl en) ?_
  refine tri_fz 112 rfl ?_
  refine tri_rd 2 112 rfl rfl ?_
  refine tri_ret ?_
  repeat (first | refine pn_thenr ?_ | refine pn_blkr ?_)
  exact ret1 hcx rfl (rv_tmp rfl) (.refl _) en

theorem nat_Cmp {M N k l : Nat} (hk : k ≤ 4611686018427387904) (hl : l ≤ 4611686018427387904) : Fn Try.prog 101 [T.L M k, T.L N l] [] [] [] (T.c (.int .i64 (sgnc M N))) := by
  refine fn_of Try.func101 rfl (by show 2 ≤ 45; decide) fun cx hcx => ?_
  refine tri_sub (sl 0 rfl (sl 1 rfl sn)) en ?_
  refine tri_ex 0 rfl fun xs ⟨hl0, hv0, hb0⟩ => ?_
  refine tri_ex 1 rfl fun ys ⟨hl1, hv1, hb1⟩ => ?_
  have hM := lim_val hl0 hv0 hb0; have hN := lim_val hl1 hv1 hb1; unfold lim at hM hN
  refine tri_seq ?_
  refine tri_reg mixed hcx ?_ _ _
  refine asg rfl ?_
  refine ⟨by kernel_rfl, ?_⟩
  refine nx (sl 0 rfl (sl 1 rfl sn)) en ?_
  refine tri_seq ?_
  refine tri_reg mixed hcx ?_ _ _
  refine mv rfl ?_
  refine ca rfl (h := nat_trim (by omega)) (hn := ?_)
  refine mv rfl ?_
  refine ca rfl (h := nat_trim (by omega)) (hn := ?_)
  refine asg rfl ?_
  refine asg rfl ?_
  refine ⟨by kernel_rfl, ?_⟩
  refine nx (sl 0 rfl (sl 1 rfl sn)) en ?_
  refine tri_seq ?_
  refine tri_seq ?_
  refine tri_reg mixed hcx ?_ _ _
  refine mv rfl ?_
  refine ln slLs rfl ?_
  refine mv rfl ?_
  refine ln slLs rfl ?_
  refine cne rfl rfl rfl ?_
  refine ⟨by kernel_rfl, ?_⟩
  refine nx (sl 0 rfl (sl 1 rfl (sl 14 rfl sn))) en ?_
  refine tri_if rfl (fun hd => ?_) (fun hd => ?_)
  · refine tri_seq ?_
    refine tri_seq ?_
    refine tri_reg mixed hcx ?_ _ _
    refine mv rfl ?_
    refine ln slLs rfl ?_
    refine mv rfl ?_
    refine ln slLs rfl ?_
    refine clt rfl rfl rfl ?_
    refine ⟨by kernel_rfl, ?_⟩
    refine nx (sl 19 rfl sn) en ?_
    refine tri_if rfl (fun hc => ?_) (fun hc => ?_)
    · refine tri_seq ?_
      refine tri_reg mixed hcx ?_ _ _
      refine asg rfl ?_
      refine ⟨by kernel_rfl, ?_⟩
      refine nx (sl 4 rfl sn) en ?_
      refine tri_ret ?_
      repeat (first | refine pn_thenr ?_ | refine pn_blkr ?_)
      exact ret1 hcx rfl (rv_tmp rfl) (ci (sgnc_lt (by have := lim_lt (m := M) (n := N) (by unfold lim; omega); omega)).symm) en
    · refine tri_skip ?_
      refine nx sn en ?_
      refine tri_seq ?_
      refine tri_reg mixed hcx ?_ _ _
      refine asg rfl ?_
      refine ⟨by kernel_rfl, ?_⟩
      refine nx (sl 4 rfl sn) en ?_
      refine tri_ret ?_
      repeat (first | refine pn_thenr ?_ | refine pn_blkr ?_)
      exact ret1 hcx rfl (rv_tmp rfl) (ci (sgnc_gt (by have := lim_lt (m := N) (n := M) (by unfold lim; omega); omega)).symm) en
  · refine tri_skip ?_
    refine nx (sl 0 rfl (sl 1 rfl sn)) en ?_
    refine tri_seq ?_
    refine tri_seq ?_
    refine tri_reg mixed hcx ?_ _ _
    refine mv rfl ?_
    refine ln slLs rfl ?_
    refine sb _ rfl rfl rfl ⟨rfl, by omega, by omega⟩ ?_
    refine asg rfl ?_
    refine ⟨by kernel_rfl, ?_⟩
    refine nx (sl 0 rfl (sl 1 rfl (sl 5 rfl sn))) en ?_
    refine tri_block ?_
    refine tri_loop (ι := Nat) (fun k => [(0, T.l cU (dig M)), (1, T.l cU (dig N)), (5, T.c (.int .i64 ((k : Int) - 1)))]) (fun k => []) (fun k => k) (fun k => (k ≤ (dig M).length) ∧ ((dig M).drop k = (dig N).drop k)) (dig M).length ⟨Nat.le_refl _, by rw [List.drop_eq_nil_of_le (Nat.le_refl _), List.drop_eq_nil_of_le (by omega)]⟩ (sl 0 rfl (sl 1 rfl (sl 5 rfl sn))) en ?_
    rintro j ⟨hj, hdr⟩
    refine tri_sub (sl 0 rfl (sl 1 rfl (sl 5 rfl sn))) en ?_
    refine tri_seq ?_
    refine tri_seq ?_
    rcases Nat.eq_zero_or_pos j with h0 | h0
    · subst h0
      refine tri_reg mixed hcx ?_ _ _
      refine mv rfl ?_
      refine cge rfl rfl (decide_eq_false (by omega)) ?_
      refine ⟨by kernel_rfl, ?_⟩
      refine nx (sl 0 rfl (sl 1 rfl (sl 5 rfl (sl 24 rfl sn)))) en ?_
      refine tri_false rfl rfl ?_
      refine tri_exit ?_
      repeat (first | refine pn_then ?_ | refine pn_oth (by decide) ?_)
      refine pn_ex ?_
      refine nx sn en ?_
      refine tri_seq ?_
      refine tri_reg mixed hcx ?_ _ _
      refine asg rfl ?_
      refine ⟨by kernel_rfl, ?_⟩
      refine nx (sl 4 rfl sn) en ?_
      refine tri_ret ?_
      repeat (first | refine pn_thenr ?_ | refine pn_blkr ?_)
      exact ret1 hcx rfl (rv_tmp rfl) (ci (sgnc_eq (by rw [List.drop_zero, List.drop_zero] at hdr; rw [← dig_val M, ← dig_val N, hdr])).symm) en
    · obtain ⟨m, rfl⟩ : ∃ m, j = m + 1 := ⟨j - 1, by omega⟩
      refine tri_reg mixed hcx ?_ _ _
      refine mv rfl ?_
      refine cge rfl rfl (decide_eq_true (by omega)) ?_
      refine ⟨by kernel_rfl, ?_⟩
      refine nx (sl 0 rfl (sl 1 rfl (sl 5 rfl (sl 24 rfl sn)))) en ?_
      refine tri_true rfl rfl ?_
      refine tri_skip ?_
      refine nx (sl 0 rfl (sl 1 rfl (sl 5 rfl sn))) en ?_
      refine tri_seq ?_
      refine tri_block ?_
      refine tri_seq ?_
      refine tri_reg mixed hcx ?_ _ _
      refine mv rfl ?_
      refine mv rfl ?_
      refine ix rfl rfl slLs ⟨(by omega : _ = (m : Int)), by omega⟩ ?_
      refine lf rfl tyU32 ?_
      refine mv rfl ?_
      refine mv rfl ?_
      refine ix rfl rfl slLs ⟨(by omega : _ = (m : Int)), by omega⟩ ?_
      refine lf rfl tyU32 ?_
      refine cne rfl rfl rfl ?_
      refine ⟨by kernel_rfl, ?_⟩
      refine nx (sl 0 rfl (sl 1 rfl (sl 5 rfl (sl 35 rfl sn)))) en ?_
      refine tri_if rfl (fun hq => ?_) (fun hq => ?_)
      · refine tri_seq ?_
        refine tri_seq ?_
        refine tri_reg mixed hcx ?_ _ _
        refine mv rfl ?_
        refine mv rfl ?_
        refine ix rfl rfl slLs ⟨(by omega : _ = (m : Int)), by omega⟩ ?_
        refine lf rfl tyU32 ?_
        refine mv rfl ?_
        refine mv rfl ?_
        refine ix rfl rfl slLs ⟨(by omega : _ = (m : Int)), by omega⟩ ?_
        refine lf rfl tyU32 ?_
        refine clt rfl rfl rfl ?_
        refine ⟨by kernel_rfl, ?_⟩
        refine nx (sl 44 rfl sn) en ?_
        refine tri_if rfl (fun hc => ?_) (fun hc => ?_)
        · refine tri_seq ?_
          refine tri_reg mixed hcx ?_ _ _
          refine asg rfl ?_
          refine ⟨by kernel_rfl, ?_⟩
          refine nx (sl 4 rfl sn) en ?_
          refine tri_ret ?_
          repeat (first | refine pn_thenr ?_ | refine pn_blkr ?_)
          exact ret1 hcx rfl (rv_tmp rfl) (ci (sgnc_lt (by have := dig_cmp_lt (m := M) (n := N) (j := m) (by unfold lim; omega) (by unfold lim; omega) hdr hc; omega)).symm) en
        · refine tri_skip ?_
          refine nx sn en ?_
          refine tri_seq ?_
          refine tri_reg mixed hcx ?_ _ _
          refine asg rfl ?_
          refine ⟨by kernel_rfl, ?_⟩
          refine nx (sl 4 rfl sn) en ?_
          refine tri_ret ?_
          repeat (first | refine pn_thenr ?_ | refine pn_blkr ?_)
          exact ret1 hcx rfl (rv_tmp rfl) (ci (sgnc_gt (by have := dig_cmp_lt (m := N) (n := M) (j := m) (by unfold lim; omega) (by unfold lim; omega) hdr.symm (by rw [← getD_at, ← getD_at]; omega); omega)).symm) en
      · refine tri_skip ?_
        refine pn_blk ?_
        refine nx (sl 0 rfl (sl 1 rfl (sl 5 rfl sn))) en ?_
        refine tri_reg mixed hcx ?_ _ _
        refine mv rfl ?_
        refine sb _ rfl rfl rfl ⟨rfl, by omega, by omega⟩ ?_
        refine asg rfl ?_
        refine ⟨by kernel_rfl, ?_⟩
        exact pn_back m (by first | omega | (dsimp only; omega)) ⟨by omega, dig_drop (by unfold lim; omega) (by unfold lim; omega) hdr (by rw [← getD_at, ← getD_at]; omega)⟩ (sl 0 rfl (sl 1 rfl (sw 5 rfl (ci (by omega)) sn))) en

theorem gd {xs : List Int} (h : Lim xs) (k : Nat) : 0 ≤ xs.getD k cU.dflt ∧ xs.getD k cU.dflt < 4294967296 := h.at_ k
theorem c_Len32 {x : Int} (h : 0 ≤ x ∧ x < 4294967296) : Fn Try.prog 93 [T.c (.int .u32 x)] [] [] [] (T.c (.int .i64 ((nbits x.toNat : Nat) : Int))) :=
  fn_calls (args := [.int .u32 x]) fun w => (Try.bits_Len32 x w h.1 (by omega)).mono fun e w' ⟨h1, h2⟩ => ⟨by rw [h1, bitLen_nbits (by omega)], h2⟩
theorem c_LZ32 {x : Int} (h : 0 ≤ x ∧ x < 4294967296) : Fn Try.prog 104 [T.c (.int .u32 x)] [] [] [] (T.c (.int .i64 (32 - ((nbits x.toNat : Nat) : Int)))) :=
  fn_calls (args := [.int .u32 x]) fun w => (Try.bits_LeadingZeros32 x w h.1 (by omega)).mono fun e w' ⟨h1, h2⟩ => ⟨by rw [h1, bitLen_nbits (by omega)], h2⟩

theorem nat_Bits {N k : Nat} (hk : k ≤ 17592186044416) : Fn Try.prog 74 [T.L N k] [] [] [] (T.c (.int .i64 ((nbits N : Nat) : Int))) := by
  refine fn_of Try.func74 rfl (by show 1 ≤ 20; decide) fun cx hcx => ?_
  refine tri_sub (sl 0 rfl sn) en ?_
  refine tri_ex 0 rfl fun xs ⟨hl0, hv0, hb0⟩ => ?_
  have hN := lim_val hl0 hv0 hb0; unfold lim at hN
  refine tri_seq ?_
  refine tri_reg mixed hcx ?_ _ _
  refine asg rfl ?_
  refine ⟨by kernel_rfl, ?_⟩
  refine nx (sl 0 rfl sn) en ?_
  refine tri_seq ?_
  refine tri_reg mixed hcx ?_ _ _
  refine mv rfl ?_
  refine ca rfl (h := nat_trim (by omega)) (hn := ?_)
  refine asg rfl ?_
  refine ⟨by kernel_rfl, ?_⟩
  refine nx (sl 0 rfl sn) en ?_
  refine tri_seq ?_
  refine tri_seq ?_
  refine tri_reg mixed hcx ?_ _ _
  refine mv rfl ?_
  refine ln slLs rfl ?_
  refine ceq rfl rfl rfl ?_
  refine ⟨by kernel_rfl, ?_⟩
  refine nx (sl 0 rfl (sl 7 rfl sn)) en ?_
  refine tri_if rfl (fun hc => ?_) (fun hc => ?_)
  · refine tri_seq ?_
    refine tri_reg mixed hcx ?_ _ _
    refine asg rfl ?_
    refine ⟨by kernel_rfl, ?_⟩
    refine nx (sl 2 rfl sn) en ?_
    refine tri_ret ?_
    repeat (first | refine pn_thenr ?_ | refine pn_blkr ?_)
    exact ret1 hcx rfl (rv_tmp rfl) (ci (by have : N = 0 := by { have := dig_val N; rw [List.eq_nil_of_length_eq_zero (by omega : (dig N).length = 0)] at this; simpa [val] using this.symm }; subst this; rfl)) en
  · obtain ⟨m, hm⟩ : ∃ m, (dig N).length = m + 1 := ⟨(dig N).length - 1, by omega⟩
    have hb := nbits_top (n := N) (k := m) hm; rw [← getD_at] at hb; have bx := gd (dig_lim N) m; have hb32 : nbits ((dig N).getD m cU.dflt).toNat ≤ 32 := nbits_le (by omega)
    refine tri_skip ?_
    refine nx (sl 0 rfl sn) en ?_
    refine tri_seq ?_
    refine tri_reg mixed hcx ?_ _ _
    refine mv rfl ?_
    refine ln slLs rfl ?_
    refine sb _ rfl rfl rfl ⟨rfl, by omega, by omega⟩ ?_
    refine ml _ rfl rfl rfl ⟨rfl, by omega, by omega⟩ ?_
    refine mv rfl ?_
    refine mv rfl ?_
    refine ln slLs rfl ?_
    refine sb _ rfl rfl rfl ⟨rfl, by omega, by omega⟩ ?_
    refine ix rfl rfl slLs ⟨(by omega : _ = (m : Int)), by omega⟩ ?_
    refine lf rfl tyU32 ?_
    refine ca rfl (h := c_Len32 (by omega)) (hn := ?_)
    refine ad (((nbits N : Nat) : Int)) rfl rfl rfl (by omega) ?_
    refine asg rfl ?_
    refine ⟨by kernel_rfl, ?_⟩
    refine nx (sl 2 rfl sn) en ?_
    refine tri_ret ?_
    repeat (first | refine pn_thenr ?_ | refine pn_blkr ?_)
    exact ret1 hcx rfl (rv_tmp rfl) (.refl _) en

theorem nat_Add {M N k l : Nat} (hk : k ≤ 17592186044416) (hl : l ≤ 17592186044416) : Fn Try.prog 109 [T.L M k, T.L N l] [] [] [] (T.l cU (dig (M + N))) := by
  refine fn_of Try.func109 rfl (by show 2 ≤ 58; decide) fun cx hcx => ?_
  refine tri_sub (sl 0 rfl (sl 1 rfl sn)) en ?_
  refine tri_ex 0 rfl fun xs ⟨hl0, hv0, hb0⟩ => ?_
  refine tri_ex 1 rfl fun ys ⟨hl1, hv1, hb1⟩ => ?_
  have hM := lim_val hl0 hv0 hb0; have hN := lim_val hl1 hv1 hb1; unfold lim at hM hN
  refine tri_seq ?_
  refine tri_reg mixed hcx ?_ _ _
  refine asg rfl ?_
  refine ⟨by kernel_rfl, ?_⟩
  refine nx (sl 0 rfl (sl 1 rfl sn)) en ?_
  refine tri_join (ι := List Int × List Int) (fun (xs, ys) => [(0, T.l cU xs), (1, T.l cU ys)]) (fun (xs, ys) => []) (fun (xs, ys) => (Lim xs) ∧ (Lim ys) ∧ (ys.length ≤ xs.length) ∧ (val xs + val ys = ((M + N : Nat) : Int)) ∧ (xs.length ≤ 17592186044416)) ?_ ?_
  · refine tri_seq ?_
    refine tri_reg mixed hcx ?_ _ _
    refine mv rfl ?_
    refine ln slLs rfl ?_
    refine mv rfl ?_
    refine ln slLs rfl ?_
    refine clt rfl rfl rfl ?_
    refine ⟨by kernel_rfl, ?_⟩
    refine nx (sl 0 rfl (sl 1 rfl (sl 12 rfl sn))) en ?_
    refine tri_if rfl (fun hc => ?_) (fun hc => ?_)
    · refine tri_reg mixed hcx ?_ _ _
      refine mv rfl ?_
      refine mv rfl ?_
      refine asg rfl ?_
      refine asg rfl ?_
      refine ⟨by kernel_rfl, ?_⟩
      first | exact pn_join (xs, ys) ⟨hl0, hl1, by omega, by omega, by omega⟩ (sl 0 rfl (sl 1 rfl sn)) en | exact pn_join (ys, xs) ⟨hl1, hl0, by omega, by omega, by omega⟩ (sl 0 rfl (sl 1 rfl sn)) en
    · refine tri_skip ?_
      first | exact pn_join (xs, ys) ⟨hl0, hl1, by omega, by omega, by omega⟩ (sl 0 rfl (sl 1 rfl sn)) en | exact pn_join (ys, xs) ⟨hl1, hl0, by omega, by omega, by omega⟩ (sl 0 rfl (sl 1 rfl sn)) en
  · rintro ⟨xs, ys⟩ ⟨hx, hy, hle, hs, hb⟩
    refine tri_sub (sl 0 rfl (sl 1 rfl sn)) en ?_
    refine tri_seq ?_
    refine tri_reg mixed hcx ?_ _ _
    refine mv rfl ?_
    refine ln slLs rfl ?_
    refine ad (((xs.length + 1 : Nat) : Int)) rfl rfl rfl (by omega) ?_
    refine mkz (c := cU) (n := xs.length + 1) 313 slLs rfl (by omega) (fun u => ⟨zvU32, zrU u⟩) (by decide) ?_
    refine asg rfl ?_
    refine ⟨by kernel_rfl, ?_⟩
    refine nx (sl 0 rfl (sl 1 rfl (sl 5 rfl sn))) (el 313 rfl en) ?_
    refine tri_seq ?_
    refine tri_reg mixed hcx ?_ _ _
    refine asg rfl ?_
    refine ⟨by kernel_rfl, ?_⟩
    refine nx (sl 0 rfl (sl 1 rfl (sl 5 rfl (sl 6 rfl sn)))) (el 313 rfl en) ?_
    refine tri_seq ?_
    refine tri_seq ?_
    refine tri_reg mixed hcx ?_ _ _
    refine mv rfl ?_
    refine ln slLs rfl ?_
    refine mv rfl ?_
    refine ⟨by kernel_rfl, ?_⟩
    refine nx (sl 0 rfl (sl 1 rfl (sl 5 rfl (sl 6 rfl (sl 20 rfl (sl 21 rfl sn)))))) (el 313 rfl en) ?_
    refine tri_block ?_
    refine tri_loop (ι := Nat × Int × List Int) (fun (k, c, zs) => [(0, T.l cU xs), (1, T.l cU ys), (5, T.o 313), (6, T.c (.int .u64 c)), (20, T.c (.int .i64 (xs.length : Int))), (21, T.c (.int .i64 (k : Int)))]) (fun (k, c, zs) => [(313, some (Ent.row cU 77 zs))]) (fun (k, c, zs) => xs.length - k) (fun (k, c, zs) => (k ≤ xs.length) ∧ (addI xs ys zs (xs.length + 1) k c)) (0, 0, List.replicate (xs.length + 1) 0) ⟨Nat.zero_le _, addI_start xs ys _⟩ (sl 0 rfl (sl 1 rfl (sl 5 rfl (sl 6 rfl (sl 20 rfl (sl 21 rfl sn)))))) (el 313 rfl en) ?_
    rintro ⟨k, c, zs⟩ ⟨hk, hI⟩
    refine tri_sub (sl 0 rfl (sl 1 rfl (sl 5 rfl (sl 6 rfl (sl 20 rfl (sl 21 rfl sn)))))) (el 313 rfl en) ?_
    refine tri_seq ?_
    refine tri_reg mixed hcx ?_ _ _
    refine clt rfl rfl rfl ?_
    refine ⟨by kernel_rfl, ?_⟩
    refine nx (sl 0 rfl (sl 1 rfl (sl 5 rfl (sl 6 rfl (sl 20 rfl (sl 21 rfl (sl 22 rfl sn))))))) (el 313 rfl en) ?_
    refine tri_seq ?_
    refine tri_if rfl (fun hc => ?_) (fun hc => ?_)
    · have bx := gd hx k; have hbd := hI.bd; have hlz := hI.len; have bY := gd hy k
      refine tri_skip ?_
      refine nx (sl 0 rfl (sl 1 rfl (sl 5 rfl (sl 6 rfl (sl 20 rfl (sl 21 rfl sn)))))) (el 313 rfl en) ?_
      refine tri_seq ?_
      refine tri_block ?_
      refine tri_seq ?_
      refine tri_reg mixed hcx ?_ _ _
      refine mv rfl ?_
      refine asg rfl ?_
      refine ⟨by kernel_rfl, ?_⟩
      refine nx (sl 0 rfl (sl 1 rfl (sl 5 rfl (sl 6 rfl (sl 7 rfl (sl 20 rfl (sl 21 rfl sn))))))) (el 313 rfl en) ?_
      refine tri_seq ?_
      refine tri_reg mixed hcx ?_ _ _
      refine mv rfl ?_
      refine mv rfl ?_
      refine mv rfl ?_
      refine ix rfl rfl slLs ⟨rfl, by omega⟩ ?_
      refine lf rfl tyU32 ?_
      refine cvt _ rfl cvU32U64 rfl ⟨rfl, by omega, by omega⟩ ?_
      refine ad _ rfl rfl rfl ⟨rfl, by omega, by omega⟩ ?_
      refine asg rfl ?_
      refine ⟨by kernel_rfl, ?_⟩
      refine nx (sl 0 rfl (sl 1 rfl (sl 5 rfl (sl 6 rfl (sl 7 rfl (sl 20 rfl (sl 21 rfl sn))))))) (el 313 rfl en) ?_
      refine tri_join (ι := Int) (fun y => [(0, T.l cU xs), (1, T.l cU ys), (5, T.o 313), (6, T.c (.int .u64 (c + xs.getD k cU.dflt + y))), (7, T.c (.int .i64 (k : Int))), (20, T.c (.int .i64 (xs.length : Int))), (21, T.c (.int .i64 (k : Int)))]) (fun y => [(313, some (Ent.row cU 77 zs))]) (fun y => (0 ≤ y ∧ y < 4294967296) ∧ (val (ys.take (k + 1)) = val (ys.take k) + B k * y)) ?_ ?_
      · refine tri_seq ?_
        refine tri_reg mixed hcx ?_ _ _
        refine mv rfl ?_
        refine mv rfl ?_
        refine ln slLs rfl ?_
        refine clt rfl rfl rfl ?_
        refine ⟨by kernel_rfl, ?_⟩
        refine nx (sl 0 rfl (sl 1 rfl (sl 5 rfl (sl 6 rfl (sl 7 rfl (sl 20 rfl (sl 21 rfl (sl 34 rfl sn)))))))) (el 313 rfl en) ?_
        refine tri_if rfl (fun hd => ?_) (fun hd => ?_)
        · refine tri_reg mixed hcx ?_ _ _
          refine mv rfl ?_
          refine mv rfl ?_
          refine mv rfl ?_
          refine ix rfl rfl slLs ⟨rfl, by omega⟩ ?_
          refine lf rfl tyU32 ?_
          refine cvt _ rfl cvU32U64 rfl ⟨rfl, by omega, by omega⟩ ?_
          refine ad _ rfl rfl rfl ⟨rfl, by omega, by omega⟩ ?_
          refine asg rfl ?_
          refine ⟨by kernel_rfl, ?_⟩
          first | exact pn_join (ys.getD k cU.dflt) ⟨bY, val_take_succ (by omega)⟩ (sl 0 rfl (sl 1 rfl (sl 5 rfl (sl 6 rfl (sl 7 rfl (sl 20 rfl (sl 21 rfl sn))))))) (el 313 rfl en) | exact pn_join 0 ⟨by omega, by rw [List.take_of_length_le (by omega), List.take_of_length_le (by omega)]; omega⟩ (sl 0 rfl (sl 1 rfl (sl 5 rfl (sw 6 rfl (ci (by omega)) (sl 7 rfl (sl 20 rfl (sl 21 rfl sn))))))) (el 313 rfl en)
        · refine tri_skip ?_
          first | exact pn_join (ys.getD k cU.dflt) ⟨bY, val_take_succ (by omega)⟩ (sl 0 rfl (sl 1 rfl (sl 5 rfl (sl 6 rfl (sl 7 rfl (sl 20 rfl (sl 21 rfl sn))))))) (el 313 rfl en) | exact pn_join 0 ⟨by omega, by rw [List.take_of_length_le (by omega), List.take_of_length_le (by omega)]; omega⟩ (sl 0 rfl (sl 1 rfl (sl 5 rfl (sw 6 rfl (ci (by omega)) (sl 7 rfl (sl 20 rfl (sl 21 rfl sn))))))) (el 313 rfl en)
      · rintro y ⟨hy0, hyy⟩
        refine tri_sub (sl 0 rfl (sl 1 rfl (sl 5 rfl (sl 6 rfl (sl 7 rfl (sl 20 rfl (sl 21 rfl sn))))))) (el 313 rfl en) ?_
        refine tri_seq ?_
        refine tri_reg mixed hcx ?_ _ _
        refine mv rfl ?_
        refine mv rfl ?_
        refine mv rfl ?_
        refine cvm _ rfl cvU64U32 rfl ?_
        refine ixo rfl rfl rfl slLs ⟨rfl, by omega⟩ ?_
        refine so rfl rfl rfl (.refl _) tyU32 ⟨rfl, by omega⟩ ?_
        refine ⟨by kernel_rfl, ?_⟩
        refine nx (sl 0 rfl (sl 1 rfl (sl 5 rfl (sl 6 rfl (sl 20 rfl (sl 21 rfl sn)))))) (el 313 rfl en) ?_
        refine tri_reg mixed hcx ?_ _ _
        refine mv rfl ?_
        refine shR (s := 32) ((c + xs.getD k cU.dflt + y) / 4294967296) rfl rfl rfl ⟨by omega, by omega, by decide⟩ ?_
        refine asg rfl ?_
        refine ⟨by kernel_rfl, ?_⟩
        refine pn_blk ?_
        refine nx (sl 0 rfl (sl 1 rfl (sl 5 rfl (sl 6 rfl (sl 20 rfl (sl 21 rfl sn)))))) (el 313 rfl en) ?_
        refine tri_reg mixed hcx ?_ _ _
        refine ad (((k + 1 : Nat) : Int)) rfl rfl rfl (by omega) ?_
        refine mv rfl ?_
        refine ⟨by kernel_rfl, ?_⟩
        exact pn_back (k + 1, (c + xs.getD k cU.dflt + y) / 4294967296, zs.set k ((c + xs.getD k cU.dflt + y) % 4294967296)) (by first | omega | (dsimp only; omega)) ⟨by omega, addI_step hI (by omega) (by omega) hx hy0.1 hy0.2 hyy _ rfl⟩ (sl 0 rfl (sl 1 rfl (sl 5 rfl (sl 6 rfl (sl 20 rfl (sl 21 rfl sn)))))) (el 313 rfl en)
    · refine tri_exit ?_
      repeat (first | refine pn_then ?_ | refine pn_oth (by decide) ?_)
      refine pn_ex ?_
      obtain rfl : k = xs.length := by omega
      have hE := addI_end hI rfl hle c rfl; have hlz := hI.len; have hbd := hI.bd
      have hE1 := hE.1.trans hs; have hE2 := hE.2; have hE3 : (zs.set xs.length c).length ≤ xs.length + 1 := by rw [List.length_set]; omega
      refine nx (sl 0 rfl (sl 5 rfl (sl 6 rfl sn))) (el 313 rfl en) ?_
      refine tri_seq ?_
      refine tri_reg mixed hcx ?_ _ _
      refine mv rfl ?_
      refine mv rfl ?_
      refine ln slLs rfl ?_
      refine mv rfl ?_
      refine cvm (c) rfl cvU64U32 (by omega) ?_
      refine ixo rfl rfl rfl slLs ⟨rfl, by omega⟩ ?_
      refine so rfl rfl rfl (.refl _) tyU32 ⟨rfl, by omega⟩ ?_
      refine ⟨by kernel_rfl, ?_⟩
      refine nx (sl 5 rfl sn) (el 313 rfl en) ?_
      refine tri_seq ?_
      refine tri_fz 313 rfl ?_
      refine tri_rd 5 313 rfl rfl ?_
      refine tri_reg mixed hcx ?_ _ _
      refine mv rfl ?_
      refine ca rfl (h := nat_trim (by omega)) (hn := ?_)
      refine asg rfl ?_
      refine ⟨by kernel_rfl, ?_⟩
      refine nx (sl 4 rfl sn) (el 313 rfl en) ?_
      refine tri_ret ?_
      repeat (first | refine pn_thenr ?_ | refine pn_blkr ?_)
      exact ret1 hcx rfl (rv_tmp rfl) (.refl _) en

theorem nat_less {xs ys : List Int} {M N : Nat} (hx : Lim xs) (hy : Lim ys) (hle : ys.length ≤ xs.length) (hvx : val xs = M) (hvy : val ys = N) (hMN : N ≤ M) (hl : xs.length ≤ 17592186044416) : Fn Try.prog 115 [T.l cU xs, T.l cU ys] [] [] [] (T.l cU (dig (M - N))) := by
  refine fn_of Try.func115 rfl (by show 2 ≤ 45; decide) fun cx hcx => ?_
  refine tri_sub (sl 0 rfl (sl 1 rfl sn)) en ?_
  refine tri_seq ?_
  refine tri_reg mixed hcx ?_ _ _
  refine asg rfl ?_
  refine ⟨by kernel_rfl, ?_⟩
  refine nx (sl 0 rfl (sl 1 rfl sn)) en ?_
  refine tri_seq ?_
  refine tri_reg mixed hcx ?_ _ _
  refine mv rfl ?_
  refine ln slLs rfl ?_
  refine mkz (c := cU) (n := xs.length) 112 slLs rfl (by omega) (fun u => ⟨zvU32, zrU u⟩) (by decide) ?_
  refine asg rfl ?_
  refine ⟨by kernel_rfl, ?_⟩
  refine nx (sl 0 rfl (sl 1 rfl (sl 5 rfl sn))) (el 112 rfl en) ?_
  refine tri_seq ?_
  refine tri_reg mixed hcx ?_ _ _
  refine asg rfl ?_
  refine ⟨by kernel_rfl, ?_⟩
  refine nx (sl 0 rfl (sl 1 rfl (sl 5 rfl (sl 6 rfl sn)))) (el 112 rfl en) ?_
  refine tri_seq ?_
  refine tri_seq ?_
  refine tri_reg mixed hcx ?_ _ _
  refine mv rfl ?_
  refine ln slLs rfl ?_
  refine mv rfl ?_
  refine ⟨by kernel_rfl, ?_⟩
  refine nx (sl 0 rfl (sl 1 rfl (sl 5 rfl (sl 6 rfl (sl 13 rfl (sl 14 rfl sn)))))) (el 112 rfl en) ?_
  refine tri_block ?_
  refine tri_loop (ι := Nat × Int × List Int) (fun (k, b, zs) => [(0, T.l cU xs), (1, T.l cU ys), (5, T.o 112), (6, T.c (.int .u64 b)), (13, T.c (.int .i64 (xs.length : Int))), (14, T.c (.int .i64 (k : Int)))]) (fun (k, b, zs) => [(112, some (Ent.row cU 77 zs))]) (fun (k, b, zs) => xs.length - k) (fun (k, b, zs) => (k ≤ xs.length) ∧ (lessI xs ys zs k b)) (0, 0, List.replicate xs.length 0) ⟨Nat.zero_le _, lessI_start xs ys⟩ (sl 0 rfl (sl 1 rfl (sl 5 rfl (sl 6 rfl (sl 13 rfl (sl 14 rfl sn)))))) (el 112 rfl en) ?_
  rintro ⟨k, b, zs⟩ ⟨hk, hI⟩
  refine tri_sub (sl 0 rfl (sl 1 rfl (sl 5 rfl (sl 6 rfl (sl 13 rfl (sl 14 rfl sn)))))) (el 112 rfl en) ?_
  refine tri_seq ?_
  refine tri_reg mixed hcx ?_ _ _
  refine clt rfl rfl rfl ?_
  refine ⟨by kernel_rfl, ?_⟩
  refine nx (sl 0 rfl (sl 1 rfl (sl 5 rfl (sl 6 rfl (sl 13 rfl (sl 14 rfl (sl 15 rfl sn))))))) (el 112 rfl en) ?_
  refine tri_seq ?_
  refine tri_if rfl (fun hc => ?_) (fun hc => ?_)
  · have bx := gd hx k; have hbd := hI.1; have hbd1 := hI.2.1; have hlz := hI.2.2.1; have bY := gd hy k
    refine tri_skip ?_
    refine nx (sl 0 rfl (sl 1 rfl (sl 5 rfl (sl 6 rfl (sl 13 rfl (sl 14 rfl sn)))))) (el 112 rfl en) ?_
    refine tri_seq ?_
    refine tri_block ?_
    refine tri_seq ?_
    refine tri_reg mixed hcx ?_ _ _
    refine mv rfl ?_
    refine asg rfl ?_
    refine ⟨by kernel_rfl, ?_⟩
    refine nx (sl 0 rfl (sl 1 rfl (sl 5 rfl (sl 6 rfl (sl 7 rfl (sl 13 rfl (sl 14 rfl sn))))))) (el 112 rfl en) ?_
    refine tri_seq ?_
    refine tri_reg mixed hcx ?_ _ _
    refine mv rfl ?_
    refine mv rfl ?_
    refine ix rfl rfl slLs ⟨rfl, by omega⟩ ?_
    refine lf rfl tyU32 ?_
    refine cvt _ rfl cvU32U64 rfl ⟨rfl, by omega, by omega⟩ ?_
    refine mv rfl ?_
    refine sbm _ rfl rfl ⟨rfl, rfl⟩ rfl ?_
    refine asg rfl ?_
    refine ⟨by kernel_rfl, ?_⟩
    refine nx (sl 0 rfl (sl 1 rfl (sl 5 rfl (sl 7 rfl (sl 8 rfl (sl 13 rfl (sl 14 rfl sn))))))) (el 112 rfl en) ?_
    refine tri_join (ι := Int × Int) (fun (v, y) => [(0, T.l cU xs), (1, T.l cU ys), (5, T.o 112), (7, T.c (.int .i64 (k : Int))), (8, T.c (.int .u64 v)), (13, T.c (.int .i64 (xs.length : Int))), (14, T.c (.int .i64 (k : Int)))]) (fun (v, y) => [(112, some (Ent.row cU 77 zs))]) (fun (v, y) => (v = (xs.getD k cU.dflt - b - y) % 18446744073709551616) ∧ (0 ≤ y ∧ y < 4294967296) ∧ (val (ys.take (k + 1)) = val (ys.take k) + B k * y)) ?_ ?_
    · refine tri_seq ?_
      refine tri_reg mixed hcx ?_ _ _
      refine mv rfl ?_
      refine mv rfl ?_
      refine ln slLs rfl ?_
      refine clt rfl rfl rfl ?_
      refine ⟨by kernel_rfl, ?_⟩
      refine nx (sl 0 rfl (sl 1 rfl (sl 5 rfl (sl 7 rfl (sl 8 rfl (sl 13 rfl (sl 14 rfl (sl 27 rfl sn)))))))) (el 112 rfl en) ?_
      refine tri_if rfl (fun hd => ?_) (fun hd => ?_)
      · refine tri_reg mixed hcx ?_ _ _
        refine mv rfl ?_
        refine mv rfl ?_
        refine mv rfl ?_
        refine ix rfl rfl slLs ⟨rfl, by omega⟩ ?_
        refine lf rfl tyU32 ?_
        refine cvt _ rfl cvU32U64 rfl ⟨rfl, by omega, by omega⟩ ?_
        refine sbm _ rfl rfl ⟨rfl, rfl⟩ rfl ?_
        refine asg rfl ?_
        refine ⟨by kernel_rfl, ?_⟩
        first | exact pn_join (((xs.getD k cU.dflt - b) % 18446744073709551616 - ys.getD k cU.dflt) % 18446744073709551616, ys.getD k cU.dflt) ⟨by first | omega | (dsimp only; omega), bY, val_take_succ (by omega)⟩ (sl 0 rfl (sl 1 rfl (sl 5 rfl (sl 7 rfl (sl 8 rfl (sl 13 rfl (sl 14 rfl sn))))))) (el 112 rfl en) | exact pn_join ((xs.getD k cU.dflt - b) % 18446744073709551616, 0) ⟨by first | omega | (dsimp only; omega), by omega, by rw [List.take_of_length_le (by omega), List.take_of_length_le (by omega)]; omega⟩ (sl 0 rfl (sl 1 rfl (sl 5 rfl (sl 7 rfl (sl 8 rfl (sl 13 rfl (sl 14 rfl sn))))))) (el 112 rfl en)
      · refine tri_skip ?_
        first | exact pn_join (((xs.getD k cU.dflt - b) % 18446744073709551616 - ys.getD k cU.dflt) % 18446744073709551616, ys.getD k cU.dflt) ⟨by first | omega | (dsimp only; omega), bY, val_take_succ (by omega)⟩ (sl 0 rfl (sl 1 rfl (sl 5 rfl (sl 7 rfl (sl 8 rfl (sl 13 rfl (sl 14 rfl sn))))))) (el 112 rfl en) | exact pn_join ((xs.getD k cU.dflt - b) % 18446744073709551616, 0) ⟨by first | omega | (dsimp only; omega), by omega, by rw [List.take_of_length_le (by omega), List.take_of_length_le (by omega)]; omega⟩ (sl 0 rfl (sl 1 rfl (sl 5 rfl (sl 7 rfl (sl 8 rfl (sl 13 rfl (sl 14 rfl sn))))))) (el 112 rfl en)
    · rintro ⟨v, y⟩ ⟨hv, hy0, hyy⟩
      refine tri_sub (sl 0 rfl (sl 1 rfl (sl 5 rfl (sl 7 rfl (sl 8 rfl (sl 13 rfl (sl 14 rfl sn))))))) (el 112 rfl en) ?_
      refine tri_seq ?_
      refine tri_reg mixed hcx ?_ _ _
      refine mv rfl ?_
      refine mv rfl ?_
      refine mv rfl ?_
      refine cvm _ rfl cvU64U32 rfl ?_
      refine ixo rfl rfl rfl slLs ⟨rfl, by omega⟩ ?_
      refine so rfl rfl rfl (.refl _) tyU32 ⟨rfl, by omega⟩ ?_
      refine ⟨by kernel_rfl, ?_⟩
      refine nx (sl 0 rfl (sl 1 rfl (sl 5 rfl (sl 8 rfl (sl 13 rfl (sl 14 rfl sn)))))) (el 112 rfl en) ?_
      refine tri_reg mixed hcx ?_ _ _
      refine mv rfl ?_
      refine shR (s := 63) (v / 9223372036854775808) rfl rfl rfl ⟨by omega, by omega, by decide⟩ ?_
      refine asg rfl ?_
      refine ⟨by kernel_rfl, ?_⟩
      refine pn_blk ?_
      refine nx (sl 0 rfl (sl 1 rfl (sl 5 rfl (sl 6 rfl (sl 13 rfl (sl 14 rfl sn)))))) (el 112 rfl en) ?_
      refine tri_reg mixed hcx ?_ _ _
      refine ad (((k + 1 : Nat) : Int)) rfl rfl rfl (by omega) ?_
      refine mv rfl ?_
      refine ⟨by kernel_rfl, ?_⟩
      exact pn_back (k + 1, v / 9223372036854775808, zs.set k (v % 4294967296)) (by first | omega | (dsimp only; omega)) ⟨by omega, lessI_step hI (by omega) hx hy0.1 hy0.2 hyy _ hv⟩ (sl 0 rfl (sl 1 rfl (sl 5 rfl (sl 6 rfl (sl 13 rfl (sl 14 rfl sn)))))) (el 112 rfl en)
  · refine tri_exit ?_
    repeat (first | refine pn_then ?_ | refine pn_oth (by decide) ?_)
    refine pn_ex ?_
    obtain rfl : k = xs.length := by omega
    have hE1 : val zs = ((M - N : Nat) : Int) := by { have := lessI_end hI hx hy hle (by omega); omega }
    have hE2 := hI.lim; have hE3 : zs.length ≤ xs.length := Nat.le_of_eq hI.2.2.1
    refine nx (sl 5 rfl sn) (el 112 rfl en) ?_
    refine tri_seq ?_
    refine tri_fz 112 rfl ?_
    refine tri_rd 5 112 rfl rfl ?_
    refine tri_reg mixed hcx ?_ _ _
    refine mv rfl ?_
    refine ca rfl (h := nat_trim (by omega)) (hn := ?_)
    refine asg rfl ?_
    refine ⟨by kernel_rfl, ?_⟩
    refine nx (sl 4 rfl sn) (el 112 rfl en) ?_
    refine tri_ret ?_
    repeat (first | refine pn_thenr ?_ | refine pn_blkr ?_)
    exact ret1 hcx rfl (rv_tmp rfl) (.refl _) en

theorem sgnc_ge0 {M N : Nat} (h : N ≤ M) : 0 ≤ sgnc (M : Int) N := by unfold sgnc; split <;> (try split) <;> omega

theorem nat_Sub {M N k l : Nat} (hMN : N ≤ M) (hk : k ≤ 17592186044416) (hl : l ≤ 17592186044416) : Fn Try.prog 110 [T.L M k, T.L N l] [] [] [] (T.tup [T.l cU (dig (M - N)), T.c (.int .i64 0)]) := by
  refine fn_of Try.func110 rfl (by show 2 ≤ 15; decide) fun cx hcx => ?_
  refine tri_sub (sl 0 rfl (sl 1 rfl sn)) en ?_
  refine tri_ex 0 rfl fun xs ⟨hl0, hv0, hb0⟩ => ?_
  refine tri_ex 1 rfl fun ys ⟨hl1, hv1, hb1⟩ => ?_
  have hM := lim_val hl0 hv0 hb0; have hN := lim_val hl1 hv1 hb1; unfold lim at hM hN
  have hs := sgnc_ge0 hMN
  refine tri_seq ?_
  refine tri_reg mixed hcx ?_ _ _
  refine asg rfl ?_
  refine asg rfl ?_
  refine ⟨by kernel_rfl, ?_⟩
  refine nx (sl 0 rfl (sl 1 rfl sn)) en ?_
  refine tri_seq ?_
  refine tri_seq ?_
  refine tri_reg mixed hcx ?_ _ _
  refine mv rfl ?_
  refine mv rfl ?_
  refine ca rfl (h := nat_Cmp (by omega) (by omega)) (hn := ?_)
  refine clt rfl rfl (decide_eq_false (by omega)) ?_
  refine ⟨by kernel_rfl, ?_⟩
  refine nx (sl 0 rfl (sl 1 rfl (sl 9 rfl sn))) en ?_
  refine tri_false rfl rfl ?_
  refine tri_skip ?_
  refine nx (sl 0 rfl (sl 1 rfl sn)) en ?_
  refine tri_seq ?_
  refine tri_reg mixed hcx ?_ _ _
  refine mv rfl ?_
  refine ca rfl (h := nat_trim (by omega)) (hn := ?_)
  refine mv rfl ?_
  refine ca rfl (h := nat_trim (by omega)) (hn := ?_)
  refine ca rfl (h := nat_less (dig_lim _) (dig_lim _) (lim_mono (by omega)) (dig_val _) (dig_val _) (by omega) (by show (dig _).length ≤ _; omega)) (hn := ?_)
  refine asg rfl ?_
  refine asg rfl ?_
  refine ⟨by kernel_rfl, ?_⟩
  refine nx (sl 4 rfl (sl 5 rfl sn)) en ?_
  refine tri_ret ?_
  repeat (first | refine pn_thenr ?_ | refine pn_blkr ?_)
  exact ret2 hcx rfl (rv_tmp rfl) (rv_tmp rfl) (.refl _) en

theorem nat_Mul {M N k l : Nat} (hk : k ≤ 17592186044416) (hl : l ≤ 17592186044416) : Fn Try.prog 94 [T.L M k, T.L N l] [] [] [] (T.l cU (dig (M * N))) := by
  refine fn_of Try.func94 rfl (by show 2 ≤ 71; decide) fun cx hcx => ?_
  refine tri_sub (sl 0 rfl (sl 1 rfl sn)) en ?_
  refine tri_ex 0 rfl fun xs ⟨hl0, hv0, hb0⟩ => ?_
  refine tri_ex 1 rfl fun ys ⟨hl1, hv1, hb1⟩ => ?_
  have hM := lim_val hl0 hv0 hb0; have hN := lim_val hl1 hv1 hb1; unfold lim at hM hN
  refine tri_seq ?_
  refine tri_reg mixed hcx ?_ _ _
  refine asg rfl ?_
  refine ⟨by kernel_rfl, ?_⟩
  refine nx (sl 0 rfl (sl 1 rfl sn)) en ?_
  refine tri_seq ?_
  refine tri_reg mixed hcx ?_ _ _
  refine mv rfl ?_
  refine ca rfl (h := nat_trim (by omega)) (hn := ?_)
  refine mv rfl ?_
  refine ca rfl (h := nat_trim (by omega)) (hn := ?_)
  refine asg rfl ?_
  refine asg rfl ?_
  refine ⟨by kernel_rfl, ?_⟩
  refine nx (sl 0 rfl (sl 1 rfl sn)) en ?_
  refine tri_seq ?_
  refine tri_reg mixed hcx ?_ _ _
  refine mv rfl ?_
  refine ln slLs rfl ?_
  refine mv rfl ?_
  refine ln slLs rfl ?_
  refine ad ((((dig M).length + (dig N).length : Nat) : Int)) rfl rfl rfl (by omega) ?_
  refine mkz (c := cU) (n := (dig M).length + (dig N).length) 215 slLs rfl (by omega) (fun u => ⟨zvU32, zrU u⟩) (by decide) ?_
  refine asg rfl ?_
  refine ⟨by kernel_rfl, ?_⟩
  refine nx (sl 0 rfl (sl 1 rfl (sl 5 rfl sn))) (el 215 rfl en) ?_
  refine tri_seq ?_
  refine tri_seq ?_
  refine tri_reg mixed hcx ?_ _ _
  refine mv rfl ?_
  refine ln slLs rfl ?_
  refine mv rfl ?_
  refine ⟨by kernel_rfl, ?_⟩
  refine nx (sl 0 rfl (sl 1 rfl (sl 5 rfl (sl 20 rfl (sl 21 rfl sn))))) (el 215 rfl en) ?_
  refine tri_block ?_
  refine tri_loop (ι := Nat × List Int) (fun (i, zs) => [(0, T.l cU (dig M)), (1, T.l cU (dig N)), (5, T.o 215), (20, T.c (.int .i64 ((dig M).length : Int))), (21, T.c (.int .i64 (i : Int)))]) (fun (i, zs) => [(215, some (Ent.row cU 77 zs))]) (fun (i, zs) => (dig M).length - i) (fun (i, zs) => (i ≤ (dig M).length) ∧ (Nml.mulO (dig M) (dig N) zs ((dig M).length + (dig N).length) i)) (0, List.replicate ((dig M).length + (dig N).length) 0) ⟨Nat.zero_le _, Nml.mulO_start _ _ _⟩ (sl 0 rfl (sl 1 rfl (sl 5 rfl (sl 20 rfl (sl 21 rfl sn))))) (el 215 rfl en) ?_
  rintro ⟨i, zs⟩ ⟨hi, hO⟩
  refine tri_sub (sl 0 rfl (sl 1 rfl (sl 5 rfl (sl 20 rfl (sl 21 rfl sn))))) (el 215 rfl en) ?_
  refine tri_seq ?_
  refine tri_reg mixed hcx ?_ _ _
  refine clt rfl rfl rfl ?_
  refine ⟨by kernel_rfl, ?_⟩
  refine nx (sl 0 rfl (sl 1 rfl (sl 5 rfl (sl 20 rfl (sl 21 rfl (sl 22 rfl sn)))))) (el 215 rfl en) ?_
  refine tri_seq ?_
  refine tri_if rfl (fun hc => ?_) (fun hc => ?_)
  · refine tri_skip ?_
    refine nx (sl 0 rfl (sl 1 rfl (sl 5 rfl (sl 20 rfl (sl 21 rfl sn))))) (el 215 rfl en) ?_
    refine tri_seq ?_
    refine tri_block ?_
    refine tri_seq ?_
    refine tri_reg mixed hcx ?_ _ _
    refine mv rfl ?_
    refine asg rfl ?_
    refine ⟨by kernel_rfl, ?_⟩
    refine nx (sl 0 rfl (sl 1 rfl (sl 5 rfl (sl 6 rfl (sl 20 rfl (sl 21 rfl sn)))))) (el 215 rfl en) ?_
    refine tri_seq ?_
    refine tri_reg mixed hcx ?_ _ _
    refine asg rfl ?_
    refine ⟨by kernel_rfl, ?_⟩
    refine nx (sl 0 rfl (sl 1 rfl (sl 5 rfl (sl 6 rfl (sl 7 rfl (sl 20 rfl (sl 21 rfl sn))))))) (el 215 rfl en) ?_
    refine tri_seq ?_
    refine tri_seq ?_
    refine tri_reg mixed hcx ?_ _ _
    refine mv rfl ?_
    refine ln slLs rfl ?_
    refine mv rfl ?_
    refine ⟨by kernel_rfl, ?_⟩
    refine nx (sl 0 rfl (sl 1 rfl (sl 5 rfl (sl 6 rfl (sl 7 rfl (sl 20 rfl (sl 21 rfl (sl 25 rfl (sl 26 rfl sn))))))))) (el 215 rfl en) ?_
    refine tri_block ?_
    refine tri_loop (ι := Nat × Int × List Int) (fun (j, c, zs) => [(0, T.l cU (dig M)), (1, T.l cU (dig N)), (5, T.o 215), (6, T.c (.int .i64 (i : Int))), (7, T.c (.int .u64 c)), (20, T.c (.int .i64 ((dig M).length : Int))), (21, T.c (.int .i64 (i : Int))), (25, T.c (.int .i64 ((dig N).length : Int))), (26, T.c (.int .i64 (j : Int)))]) (fun (j, c, zs) => [(215, some (Ent.row cU 77 zs))]) (fun (j, c, zs) => (dig N).length - j) (fun (j, c, zs) => (j ≤ (dig N).length) ∧ (Nml.mulI (dig N) zs ((dig M).length + (dig N).length) i (val ((dig M).take i) * val (dig N)) (at_ (dig M) i) j c)) (0, 0, zs) ⟨Nat.zero_le _, Nml.mulI_start hO⟩ (sl 0 rfl (sl 1 rfl (sl 5 rfl (sl 6 rfl (sl 7 rfl (sl 20 rfl (sl 21 rfl (sl 25 rfl (sl 26 rfl sn))))))))) (el 215 rfl en) ?_
    rintro ⟨j, c, zs⟩ ⟨hj, hI⟩
    refine tri_sub (sl 0 rfl (sl 1 rfl (sl 5 rfl (sl 6 rfl (sl 7 rfl (sl 20 rfl (sl 21 rfl (sl 25 rfl (sl 26 rfl sn))))))))) (el 215 rfl en) ?_
    refine tri_seq ?_
    refine tri_reg mixed hcx ?_ _ _
    refine clt rfl rfl rfl ?_
    refine ⟨by kernel_rfl, ?_⟩
    refine nx (sl 0 rfl (sl 1 rfl (sl 5 rfl (sl 6 rfl (sl 7 rfl (sl 20 rfl (sl 21 rfl (sl 25 rfl (sl 26 rfl (sl 27 rfl sn)))))))))) (el 215 rfl en) ?_
    refine tri_seq ?_
    refine tri_if rfl (fun hd => ?_) (fun hd => ?_)
    · have bx := gd (dig_lim M) i; have bY := gd (dig_lim N) j; have hbd := hI.bd; have hlz := hI.len; have bz := gd hI.lim (i + j); have hmb := mul_bound bx.1 bx.2 bY.1 bY.2 hbd.1 hbd.2 bz.1 bz.2
      refine tri_skip ?_
      refine nx (sl 0 rfl (sl 1 rfl (sl 5 rfl (sl 6 rfl (sl 7 rfl (sl 20 rfl (sl 21 rfl (sl 25 rfl (sl 26 rfl sn))))))))) (el 215 rfl en) ?_
      refine tri_seq ?_
      refine tri_block ?_
      refine tri_seq ?_
      refine tri_reg mixed hcx ?_ _ _
      refine mv rfl ?_
      refine asg rfl ?_
      refine ⟨by kernel_rfl, ?_⟩
      refine nx (sl 0 rfl (sl 1 rfl (sl 5 rfl (sl 6 rfl (sl 7 rfl (sl 8 rfl (sl 20 rfl (sl 21 rfl (sl 25 rfl (sl 26 rfl sn)))))))))) (el 215 rfl en) ?_
      refine tri_seq ?_
      refine tri_reg mixed hcx ?_ _ _
      refine mv rfl ?_
      refine mv rfl ?_
      refine mv rfl ?_
      refine ix rfl rfl slLs ⟨rfl, by omega⟩ ?_
      refine lf rfl tyU32 ?_
      refine cvt _ rfl cvU32U64 rfl ⟨rfl, by omega, by omega⟩ ?_
      refine mv rfl ?_
      refine mv rfl ?_
      refine ix rfl rfl slLs ⟨rfl, by omega⟩ ?_
      refine lf rfl tyU32 ?_
      refine cvt _ rfl cvU32U64 rfl ⟨rfl, by omega, by omega⟩ ?_
      refine ml _ rfl rfl rfl ⟨rfl, by omega, by omega⟩ ?_
      refine mv rfl ?_
      refine mv rfl ?_
      refine mv rfl ?_
      refine ad (((i + j : Nat) : Int)) rfl rfl rfl (by omega) ?_
      refine ixo rfl rfl rfl slLs ⟨rfl, by omega⟩ ?_
      refine lo _ rfl rfl tyU32 ⟨rfl, rfl, by omega⟩ ?_
      refine cvt _ rfl cvU32U64 rfl ⟨rfl, by omega, by omega⟩ ?_
      refine ad _ rfl rfl rfl ⟨rfl, by omega, by omega⟩ ?_
      refine ad _ rfl rfl rfl ⟨rfl, by omega, by omega⟩ ?_
      refine asg rfl ?_
      refine ⟨by kernel_rfl, ?_⟩
      refine nx (sl 0 rfl (sl 1 rfl (sl 5 rfl (sl 6 rfl (sl 7 rfl (sl 8 rfl (sl 20 rfl (sl 21 rfl (sl 25 rfl (sl 26 rfl sn)))))))))) (el 215 rfl en) ?_
      refine tri_seq ?_
      refine tri_reg mixed hcx ?_ _ _
      refine mv rfl ?_
      refine mv rfl ?_
      refine mv rfl ?_
      refine ad (((i + j : Nat) : Int)) rfl rfl rfl (by omega) ?_
      refine mv rfl ?_
      refine cvm _ rfl cvU64U32 rfl ?_
      refine ixo rfl rfl rfl slLs ⟨rfl, by omega⟩ ?_
      refine so rfl rfl rfl (.refl _) tyU32 ⟨rfl, by omega⟩ ?_
      refine ⟨by kernel_rfl, ?_⟩
      refine nx (sl 0 rfl (sl 1 rfl (sl 5 rfl (sl 6 rfl (sl 7 rfl (sl 20 rfl (sl 21 rfl (sl 25 rfl (sl 26 rfl sn))))))))) (el 215 rfl en) ?_
      refine tri_reg mixed hcx ?_ _ _
      refine mv rfl ?_
      refine shR (s := 32) ((c + ((dig M).getD i cU.dflt * (dig N).getD j cU.dflt + zs.getD (i + j) cU.dflt)) / 4294967296) rfl rfl rfl ⟨by omega, by omega, by decide⟩ ?_
      refine asg rfl ?_
      refine ⟨by kernel_rfl, ?_⟩
      refine pn_blk ?_
      refine nx (sl 0 rfl (sl 1 rfl (sl 5 rfl (sl 6 rfl (sl 7 rfl (sl 20 rfl (sl 21 rfl (sl 25 rfl (sl 26 rfl sn))))))))) (el 215 rfl en) ?_
      refine tri_reg mixed hcx ?_ _ _
      refine ad (((j + 1 : Nat) : Int)) rfl rfl rfl (by omega) ?_
      refine mv rfl ?_
      refine ⟨by kernel_rfl, ?_⟩
      exact pn_back (j + 1, (c + ((dig M).getD i cU.dflt * (dig N).getD j cU.dflt + zs.getD (i + j) cU.dflt)) / 4294967296, zs.set (i + j) ((c + ((dig M).getD i cU.dflt * (dig N).getD j cU.dflt + zs.getD (i + j) cU.dflt)) % 4294967296)) (by first | omega | (dsimp only; omega)) ⟨by omega, Nml.mulI_step hI (by omega) (by omega) bx.1 bx.2 (dig_lim N) _ rfl⟩ (sl 0 rfl (sl 1 rfl (sl 5 rfl (sl 6 rfl (sl 7 rfl (sl 20 rfl (sl 21 rfl (sl 25 rfl (sl 26 rfl sn))))))))) (el 215 rfl en)
    · refine tri_exit ?_
      repeat (first | refine pn_then ?_ | refine pn_oth (by decide) ?_)
      refine pn_ex ?_
      obtain rfl : j = (dig N).length := by omega
      have hlz := hI.len; have hbd := hI.bd
      refine nx (sl 0 rfl (sl 1 rfl (sl 5 rfl (sl 6 rfl (sl 7 rfl (sl 20 rfl (sl 21 rfl sn))))))) (el 215 rfl en) ?_
      refine tri_reg mixed hcx ?_ _ _
      refine mv rfl ?_
      refine mv rfl ?_
      refine mv rfl ?_
      refine ln slLs rfl ?_
      refine ad (((i + (dig N).length : Nat) : Int)) rfl rfl rfl (by omega) ?_
      refine mv rfl ?_
      refine cvm (c) rfl cvU64U32 (by omega) ?_
      refine ixo rfl rfl rfl slLs ⟨rfl, by omega⟩ ?_
      refine so rfl rfl rfl (.refl _) tyU32 ⟨rfl, by omega⟩ ?_
      refine ⟨by kernel_rfl, ?_⟩
      refine pn_blk ?_
      refine nx (sl 0 rfl (sl 1 rfl (sl 5 rfl (sl 20 rfl (sl 21 rfl sn))))) (el 215 rfl en) ?_
      refine tri_reg mixed hcx ?_ _ _
      refine ad (((i + 1 : Nat) : Int)) rfl rfl rfl (by omega) ?_
      refine mv rfl ?_
      refine ⟨by kernel_rfl, ?_⟩
      exact pn_back (i + 1, zs.set (i + (dig N).length) c) (by first | omega | (dsimp only; omega)) ⟨by omega, Nml.mulO_step hI (by omega) (by omega)⟩ (sl 0 rfl (sl 1 rfl (sl 5 rfl (sl 20 rfl (sl 21 rfl sn))))) (el 215 rfl en)
  · refine tri_exit ?_
    repeat (first | refine pn_then ?_ | refine pn_oth (by decide) ?_)
    refine pn_ex ?_
    obtain rfl : i = (dig M).length := by omega
    have hE := Nml.mulO_end hO; have hE1 : val zs = ((M * N : Nat) : Int) := by rw [hE.1, dig_val, dig_val, Int.natCast_mul]
    have hE2 := hE.2; have hE3 : zs.length ≤ (dig M).length + (dig N).length := Nat.le_of_eq hO.len
    refine nx (sl 5 rfl sn) (el 215 rfl en) ?_
    refine tri_seq ?_
    refine tri_fz 215 rfl ?_
    refine tri_rd 5 215 rfl rfl ?_
    refine tri_reg mixed hcx ?_ _ _
    refine mv rfl ?_
    refine ca rfl (h := nat_trim (by omega)) (hn := ?_)
    refine asg rfl ?_
    refine ⟨by kernel_rfl, ?_⟩
    refine nx (sl 4 rfl sn) (el 215 rfl en) ?_
    refine tri_ret ?_
    repeat (first | refine pn_thenr ?_ | refine pn_blkr ?_)
    exact ret1 hcx rfl (rv_tmp rfl) (.refl _) en

theorem nat_short {us : List Int} {M V : Nat} (hx : Lim us) (hvx : val us = M) (hV0 : 0 < V) (hV : V < 4294967296) (hl : us.length ≤ 17592186044416) : Fn Try.prog 103 [T.l cU us, T.c (.int .u32 (V : Int))] [] [] [] (T.tup [T.l cU (dig (M / V)), T.c (.int .u32 ((M % V : Nat) : Int))]) := by
  refine fn_of Try.func103 rfl (by show 2 ≤ 43; decide) fun cx hcx => ?_
  refine tri_sub (sl 0 rfl (sl 1 rfl sn)) en ?_
  refine tri_seq ?_
  refine tri_reg mixed hcx ?_ _ _
  refine asg rfl ?_
  refine asg rfl ?_
  refine ⟨by kernel_rfl, ?_⟩
  refine nx (sl 0 rfl (sl 1 rfl sn)) en ?_
  refine tri_seq ?_
  refine tri_reg mixed hcx ?_ _ _
  refine mv rfl ?_
  refine ln slLs rfl ?_
  refine mkz (c := cU) (n := us.length) 112 slLs rfl (by omega) (fun u => ⟨zvU32, zrU u⟩) (by decide) ?_
  refine asg rfl ?_
  refine ⟨by kernel_rfl, ?_⟩
  refine nx (sl 0 rfl (sl 1 rfl (sl 6 rfl sn))) (el 112 rfl en) ?_
  refine tri_seq ?_
  refine tri_reg mixed hcx ?_ _ _
  refine asg rfl ?_
  refine ⟨by kernel_rfl, ?_⟩
  refine nx (sl 0 rfl (sl 1 rfl (sl 6 rfl (sl 7 rfl sn)))) (el 112 rfl en) ?_
  refine tri_seq ?_
  refine tri_seq ?_
  refine tri_reg mixed hcx ?_ _ _
  refine mv rfl ?_
  refine ln slLs rfl ?_
  refine sb _ rfl rfl rfl ⟨rfl, by omega, by omega⟩ ?_
  refine asg rfl ?_
  refine ⟨by kernel_rfl, ?_⟩
  refine nx (sl 0 rfl (sl 1 rfl (sl 6 rfl (sl 7 rfl (sl 8 rfl sn))))) (el 112 rfl en) ?_
  refine tri_block ?_
  refine tri_loop (ι := Nat × Nat × List Int) (fun (k, R, qs) => [(0, T.l cU us), (1, T.c (.int .u32 (V : Int))), (6, T.o 112), (7, T.c (.int .u64 (R : Int))), (8, T.c (.int .i64 ((k : Int) - 1)))]) (fun (k, R, qs) => [(112, some (Ent.row cU 77 qs))]) (fun (k, R, qs) => k) (fun (k, R, qs) => (k ≤ us.length) ∧ (dvI us qs V k R)) (us.length, 0, List.replicate us.length 0) ⟨Nat.le_refl _, dvI_start us hV0⟩ (sl 0 rfl (sl 1 rfl (sl 6 rfl (sl 7 rfl (sl 8 rfl sn))))) (el 112 rfl en) ?_
  rintro ⟨k, R, qs⟩ ⟨hk, hI⟩
  refine tri_sub (sl 0 rfl (sl 1 rfl (sl 6 rfl (sl 7 rfl (sl 8 rfl sn))))) (el 112 rfl en) ?_
  refine tri_seq ?_
  refine tri_seq ?_
  rcases Nat.eq_zero_or_pos k with h0 | h0
  · subst h0
    refine tri_reg mixed hcx ?_ _ _
    refine mv rfl ?_
    refine cge rfl rfl (decide_eq_false (by omega)) ?_
    refine ⟨by kernel_rfl, ?_⟩
    refine nx (sl 0 rfl (sl 1 rfl (sl 6 rfl (sl 7 rfl (sl 8 rfl (sl 16 rfl sn)))))) (el 112 rfl en) ?_
    refine tri_false rfl rfl ?_
    refine tri_exit ?_
    repeat (first | refine pn_then ?_ | refine pn_oth (by decide) ?_)
    refine pn_ex ?_
    refine nx (sl 6 rfl (sl 7 rfl sn)) (el 112 rfl en) ?_
    refine tri_seq ?_
    have hE := dvI_end hI hvx; have hE1 := hE.1; have hE2 := hI.2.1; have hE3 : qs.length ≤ us.length := Nat.le_of_eq hI.1
    have hR := hE.2; subst hR; have hmod := Nat.mod_lt M hV0
    refine tri_fz 112 rfl ?_
    refine tri_rd 6 112 rfl rfl ?_
    refine tri_reg mixed hcx ?_ _ _
    refine mv rfl ?_
    refine ca rfl (h := nat_trim (by omega)) (hn := ?_)
    refine mv rfl ?_
    refine cvm (((M % V : Nat) : Int)) rfl cvU64U32 (by omega) ?_
    refine asg rfl ?_
    refine asg rfl ?_
    refine ⟨by kernel_rfl, ?_⟩
    refine nx (sl 4 rfl (sl 5 rfl sn)) (el 112 rfl en) ?_
    refine tri_ret ?_
    repeat (first | refine pn_thenr ?_ | refine pn_blkr ?_)
    exact ret2 hcx rfl (rv_tmp rfl) (rv_tmp rfl) (.refl _) en
  · obtain ⟨m, rfl⟩ : ∃ m, k = m + 1 := ⟨k - 1, by omega⟩
    have bx := gd hx m; have hlz := hI.1; have hRV := hI.2.2.2.2; have hnl := nextR_lt hI hx; have hnv := nextR_val hx m R; rw [← getD_at] at hnv
    have hd : nextR us m R / V < 4294967296 := Nat.div_lt_of_lt_mul (by rw [Nat.mul_comm]; exact hnl)
    refine tri_reg mixed hcx ?_ _ _
    refine mv rfl ?_
    refine cge rfl rfl (decide_eq_true (by omega)) ?_
    refine ⟨by kernel_rfl, ?_⟩
    refine nx (sl 0 rfl (sl 1 rfl (sl 6 rfl (sl 7 rfl (sl 8 rfl (sl 16 rfl sn)))))) (el 112 rfl en) ?_
    refine tri_true rfl rfl ?_
    refine tri_skip ?_
    refine nx (sl 0 rfl (sl 1 rfl (sl 6 rfl (sl 7 rfl (sl 8 rfl sn))))) (el 112 rfl en) ?_
    refine tri_seq ?_
    refine tri_block ?_
    refine tri_seq ?_
    refine tri_reg mixed hcx ?_ _ _
    refine mv rfl ?_
    refine shL (s := 32) ((R : Int) * 4294967296) rfl rfl rfl rfl ⟨by omega, by omega, by omega, by decide⟩ ?_
    refine mv rfl ?_
    refine mv rfl ?_
    refine ix rfl rfl slLs ⟨(by omega : _ = (m : Int)), by omega⟩ ?_
    refine lf rfl tyU32 ?_
    refine cvt _ rfl cvU32U64 rfl ⟨rfl, by omega, by omega⟩ ?_
    refine orr (((nextR us m R : Nat) : Int)) rfl rfl (by refine Eq.trans (or_u64 32 (by omega) (by omega) (by omega) bx.1 (by omega) (by omega)) ?_; omega) ?_
    refine asg rfl ?_
    refine ⟨by kernel_rfl, ?_⟩
    refine nx (sl 0 rfl (sl 1 rfl (sl 6 rfl (sl 7 rfl (sl 8 rfl sn))))) (el 112 rfl en) ?_
    refine tri_seq ?_
    refine tri_reg mixed hcx ?_ _ _
    refine mv rfl ?_
    refine mv rfl ?_
    refine mv rfl ?_
    refine mv rfl ?_
    refine cvt _ rfl cvU32U64 rfl ⟨rfl, by omega, by omega⟩ ?_
    refine qo ((nextR us m R / V : Nat) : Int) rfl rfl rfl ⟨(Int.natCast_ediv _ _).symm, by omega, by omega, by omega⟩ ?_
    refine cvm ((nextR us m R / V : Nat) : Int) rfl cvU64U32 (Int.emod_eq_of_lt (Int.natCast_nonneg _) (Int.ofNat_lt.2 hd)) ?_
    refine ixo rfl rfl rfl slLs ⟨(by omega : _ = (m : Int)), by omega⟩ ?_
    refine so rfl rfl rfl (.refl _) tyU32 ⟨rfl, by omega⟩ ?_
    refine ⟨by kernel_rfl, ?_⟩
    refine nx (sl 0 rfl (sl 1 rfl (sl 6 rfl (sl 7 rfl (sl 8 rfl sn))))) (el 112 rfl en) ?_
    refine tri_reg mixed hcx ?_ _ _
    refine mv rfl ?_
    refine mv rfl ?_
    refine cvt _ rfl cvU32U64 rfl ⟨rfl, by omega, by omega⟩ ?_
    refine re ((nextR us m R % V : Nat) : Int) rfl rfl ⟨(Int.natCast_emod _ _).symm, by omega, by omega⟩ ?_
    refine asg rfl ?_
    refine ⟨by kernel_rfl, ?_⟩
    refine pn_blk ?_
    refine nx (sl 0 rfl (sl 1 rfl (sl 6 rfl (sl 7 rfl (sl 8 rfl sn))))) (el 112 rfl en) ?_
    refine tri_reg mixed hcx ?_ _ _
    refine mv rfl ?_
    refine sb _ rfl rfl rfl ⟨rfl, by omega, by omega⟩ ?_
    refine asg rfl ?_
    refine ⟨by kernel_rfl, ?_⟩
    exact pn_back (m, nextR us m R % V, qs.set m ((nextR us m R / V : Nat) : Int)) (by first | omega | (dsimp only; omega)) ⟨by omega, dvI_put hI (by omega) hx hV0⟩ (sl 0 rfl (sl 1 rfl (sl 6 rfl (sl 7 rfl (sw 8 rfl (ci (by omega)) sn))))) (el 112 rfl en)
end Go.Proofs.Ytlmiadjogdfjkaa.V
