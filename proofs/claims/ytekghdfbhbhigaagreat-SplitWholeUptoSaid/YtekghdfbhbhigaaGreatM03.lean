/- Contracts of package nat. -/
import Derived.Test.YtekghdfbhbhigaaGreatM02
set_option linter.unusedVariables false
set_option linter.unusedSimpArgs false
set_option maxRecDepth 100000
namespace Go.Proofs.YtekghdfbhbhigaaGreat.V
open Go.RowKit Mt Nml
theorem lim_val {xs : List Int} {N b : Nat} (hl : Lim xs) (hv : val xs = N) (hb : xs.length ≤ b) : lim N ≤ b := Nat.le_trans (lim_le (by rw [← hv]; exact val_lt hl)) hb
theorem getD_at (xs : List Int) (k : Nat) : xs.getD k cU.dflt = at_ xs k := rfl
theorem take_at {xs : List Int} {m k : Nat} (h : m < k) : (xs.take k).getD m cU.dflt = at_ xs m := by
  unfold at_; rw [List.getD_eq_getElem?_getD, List.getElem?_take, if_pos h, List.getD_eq_getElem?_getD]; rfl

theorem nat_trimL {xs : List Int} (hs : xs.length ≤ 4611686018427387904) : Fn Tryz.prog 174 [T.l cU xs] [] [] [] (T.l cU (xs.take (tl xs xs.length))) := by
  refine fn_of Tryz.func174 rfl (by show 1 ≤ 21; decide) fun cx hcx => ?_
  refine tri_sub (sl 0 rfl sn) en ?_
  refine tri_seq ?_
  refine tri_reg mixed hcx ?_ _ _
  refine asg rfl ?_
  refine ⟨by kernel_rfl, ?_⟩
  refine nx (sl 0 rfl sn) en ?_
  refine tri_seq ?_
  refine tri_block ?_
  refine tri_loop (ι := Nat) (fun k => [(0, T.l cU (xs.take k))]) (fun k => []) (fun k => k) (fun k => (k ≤ xs.length) ∧ (tl xs k = tl xs xs.length)) xs.length ⟨Nat.le_refl _, rfl⟩ (sw 0 rfl (.of (by rw [List.take_length])) sn) en ?_
  rintro k ⟨hk, ht⟩
  refine tri_sub (sl 0 rfl sn) en ?_
  refine tri_seq ?_
  refine tri_seq ?_
  rcases Nat.eq_zero_or_pos k with h0 | h0
  · subst h0
    refine tri_reg mixed hcx ?_ _ _
    refine mv rfl ?_
    refine ln slLs rfl ?_
    refine cgt rfl rfl (decide_eq_false (by simp)) ?_
    refine mv rfl ?_
    refine j_off rfl rfl rfl rfl ?_
    refine j_off rfl rfl rfl rfl ?_
    refine j_off rfl rfl rfl rfl ?_
    refine j_off rfl rfl rfl rfl ?_
    refine j_off rfl rfl rfl rfl ?_
    refine j_off rfl rfl rfl rfl ?_
    refine j_off rfl rfl rfl rfl ?_
    refine pk rfl rfl ?_
    refine ⟨by kernel_rfl, ?_⟩
    refine nx (sl 0 rfl (sl 14 rfl sn)) en ?_
    refine tri_false rfl rfl ?_
    refine tri_exit ?_
    repeat (first | refine pn_then ?_ | refine pn_oth (by decide) ?_)
    refine pn_ex ?_
    refine nx (sl 0 rfl sn) en ?_
    refine tri_seq ?_
    refine tri_reg mixed hcx ?_ _ _
    refine mv rfl ?_
    refine asg rfl ?_
    refine ⟨by kernel_rfl, ?_⟩
    refine nx (sl 2 rfl sn) en ?_
    refine tri_ret ?_
    repeat (first | refine pn_thenr ?_ | refine pn_blkr ?_)
    exact ret1 hcx rfl (rv_tmp rfl) (.of (by rw [← ht]; first | rfl | simp [tl, hc])) en
  · obtain ⟨m, rfl⟩ : ∃ m, k = m + 1 := ⟨k - 1, by omega⟩
    have hlen : (xs.take (m + 1)).length = m + 1 := by rw [List.length_take]; omega
    refine tri_reg mixed hcx ?_ _ _
    refine mv rfl ?_
    refine ln slLs rfl ?_
    refine cgt rfl rfl (decide_eq_true (by omega)) ?_
    refine mv rfl ?_
    refine mv rfl ?_ (hg := gd1)
    refine mv rfl ?_ (hg := gd1)
    refine ln slLs rfl ?_ (hg := gd1)
    refine sb ((m : Int)) rfl rfl rfl (by omega) ?_ (hg := gd1)
    refine ix rfl rfl slLs ⟨rfl, by omega⟩ ?_ (hg := gd1)
    refine lf rfl tyU32 ?_ (hg := gd1)
    refine ceq rfl rfl rfl ?_ (hg := gd1)
    refine pk rfl rfl ?_
    refine ⟨by kernel_rfl, ?_⟩
    refine nx (sl 0 rfl (sl 14 rfl sn)) en ?_
    refine tri_if rfl (fun hc => ?_) (fun hc => ?_)
    · rw [take_at (by omega)] at hc
      refine tri_skip ?_
      refine nx (sl 0 rfl sn) en ?_
      refine tri_block ?_
      refine tri_reg mixed hcx ?_ _ _
      refine mv rfl ?_
      refine mv rfl ?_
      refine ln slLs rfl ?_
      refine sb ((m : Int)) rfl rfl rfl (by omega) ?_
      refine sh rfl slLs rfl ⟨rfl, by omega⟩ ?_
      refine asg rfl ?_
      refine ⟨by kernel_rfl, ?_⟩
      refine pn_blk ?_
      exact pn_back m (by first | omega | (dsimp only; omega)) ⟨by omega, by rw [← ht]; simp [tl, hc]⟩ (sw 0 rfl (.of (by rw [List.take_take, Nat.min_eq_left (by omega)])) sn) en
    · rw [take_at (by omega)] at hc
      refine tri_exit ?_
      repeat (first | refine pn_then ?_ | refine pn_oth (by decide) ?_)
      refine pn_ex ?_
      refine nx (sl 0 rfl sn) en ?_
      refine tri_seq ?_
      refine tri_reg mixed hcx ?_ _ _
      refine mv rfl ?_
      refine asg rfl ?_
      refine ⟨by kernel_rfl, ?_⟩
      refine nx (sl 2 rfl sn) en ?_
      refine tri_ret ?_
      repeat (first | refine pn_thenr ?_ | refine pn_blkr ?_)
      exact ret1 hcx rfl (rv_tmp rfl) (.of (by rw [← ht]; first | rfl | simp [tl, hc])) en

theorem trim_dig {xs : List Int} {N : Nat} (hl : Lim xs) (hv : val xs = N) : xs.take (tl xs xs.length) = dig N := dig_of (hl.take _) (tl_can (Nat.le_refl _)) (by rw [tl_val (Nat.le_refl _), List.take_length, hv])
theorem nat_trim {N k : Nat} (hk : k ≤ 4611686018427387904) : Fn Tryz.prog 174 [T.L N k] [] [] [] (T.l cU (dig N)) := fn_ex (As := []) (Bs := []) fun xs ⟨h1, h2, h3⟩ => by
  rw [← trim_dig h1 h2]; exact nat_trimL (by omega)

theorem nat_Norm {N k : Nat} (hk : k ≤ 17592186044416) : Fn Tryz.prog 196 [T.L N k] [] [] [] (T.l cU (dig N)) := by
  refine fn_of Tryz.func196 rfl (by show 1 ≤ 6; decide) fun cx hcx => ?_
  refine tri_sub (sl 0 rfl sn) en ?_
  refine tri_ex 0 rfl fun xs ⟨hl, hv, hb⟩ => ?_
  have hN := lim_val hl hv hb; unfold lim at hN
  refine tri_seq ?_
  refine tri_reg mixed hcx ?_ _ _
  refine asg rfl ?_
  refine ⟨by kernel_rfl, ?_⟩
  refine nx (sl 0 rfl sn) en ?_
  refine tri_seq ?_
  refine tri_reg mixed hcx ?_ _ _
  refine mv rfl ?_
  refine ca rfl (h := nat_trim (by omega)) (hn := ?_)
  refine apn (c := cU) 112 rfl rfl slLs (by omega) (by decide) ?_
  refine asg rfl ?_
  refine ⟨by kernel_rfl, ?_⟩
  refine nx (sl 2 rfl sn) (el 112 rfl en) ?_
  refine tri_fz 112 rfl ?_
  refine tri_rd 2 112 rfl rfl ?_
  refine tri_ret ?_
  repeat (first | refine pn_thenr ?_ | refine pn_blkr ?_)
  exact ret1 hcx rfl (rv_tmp rfl) (.refl _) en

theorem nat_Cmp {M N k l : Nat} (hk : k ≤ 4611686018427387904) (hl : l ≤ 4611686018427387904) : Fn Tryz.prog 150 [T.L M k, T.L N l] [] [] [] (T.c (.int .i64 (sgnc M N))) := by
  refine fn_of Tryz.func150 rfl (by show 2 ≤ 45; decide) fun cx hcx => ?_
  refine tri_sub (sl 0 rfl (sl 1 rfl sn)) en ?_
  refine tri_ex 0 rfl fun xs ⟨hl0, hv0, hb0⟩ => ?_
  refine tri_ex 1 rfl fun ys ⟨hl1, hv1, hb1⟩ => ?_
  have hM := lim_val hl0 hv0 hb0; have hN := lim_val hl1 hv1 hb1; unfold lim at hM hN
  refine tri_seq ?_
  refine tri_reg mixed hcx ?_ _ _
  refine asg rfl ?_
  refine ⟨by kernel_rfl, ?_⟩
  refine nx (sl 0 rfl (sl 1 rfl sn)) en ?_
  refine tri_seq ?_
  refine tri_reg mixed hcx ?_ _ _
  refine mv rfl ?_
  refine ca rfl (h := nat_trim (by omega)) (hn := ?_)
  refine mv rfl ?_
  refine ca rfl (h := nat_trim (by omega)) (hn := ?_)
  refine asg rfl ?_
  refine asg rfl ?_
  refine ⟨by kernel_rfl, ?_⟩
  refine nx (sl 0 rfl (sl 1 rfl sn)) en ?_
  refine tri_seq ?_
  refine tri_seq ?_
  refine tri_reg mixed hcx ?_ _ _
  refine mv rfl ?_
  refine ln slLs rfl ?_
  refine mv rfl ?_
  refine ln slLs rfl ?_
  refine cne rfl rfl rfl ?_
  refine ⟨by kernel_rfl, ?_⟩
  refine nx (sl 0 rfl (sl 1 rfl (sl 14 rfl sn))) en ?_
  refine tri_if rfl (fun hd => ?_) (fun hd => ?_)
  · refine tri_seq ?_
    refine tri_seq ?_
    refine tri_reg mixed hcx ?_ _ _
    refine mv rfl ?_
    refine ln slLs rfl ?_
    refine mv rfl ?_
    refine ln slLs rfl ?_
    refine clt rfl rfl rfl ?_
    refine ⟨by kernel_rfl, ?_⟩
    refine nx (sl 19 rfl sn) en ?_
    refine tri_if rfl (fun hc => ?_) (fun hc => ?_)
    · refine tri_seq ?_
      refine tri_reg mixed hcx ?_ _ _
      refine asg rfl ?_
      refine ⟨by kernel_rfl, ?_⟩
      refine nx (sl 4 rfl sn) en ?_
      refine tri_ret ?_
      repeat (first | refine pn_thenr ?_ | refine pn_blkr ?_)
      exact ret1 hcx rfl (rv_tmp rfl) (ci (sgnc_lt (by have := lim_lt (m := M) (n := N) (by unfold lim; omega); omega)).symm) en
    · refine tri_skip ?_
      refine nx sn en ?_
      refine tri_seq ?_
      refine tri_reg mixed hcx ?_ _ _
      refine asg rfl ?_
      refine ⟨by kernel_rfl, ?_⟩
      refine nx (sl 4 rfl sn) en ?_
      refine tri_ret ?_
      repeat (first | refine pn_thenr ?_ | refine pn_blkr ?_)
      exact ret1 hcx rfl (rv_tmp rfl) (ci (sgnc_gt (by have := lim_lt (m := N) (n := M) (by unfold lim; omega); omega)).symm) en
  · refine tri_skip ?_
    refine nx (sl 0 rfl (sl 1 rfl sn)) en ?_
    refine tri_seq ?_
    refine tri_seq ?_
    refine tri_reg mixed hcx ?_ _ _
    refine mv rfl ?_
    refine ln slLs rfl ?_
    refine sb _ rfl rfl rfl ⟨rfl, by omega, by omega⟩ ?_
    refine asg rfl ?_
    refine ⟨by kernel_rfl, ?_⟩
    refine nx (sl 0 rfl (sl 1 rfl (sl 5 rfl sn))) en ?_
    refine tri_block ?_
    refine tri_loop (ι := Nat) (fun k => [(0, T.l cU (dig M)), (1, T.l cU (dig N)), (5, T.c (.int .i64 ((k : Int) - 1)))]) (fun k => []) (fun k => k) (fun k => (k ≤ (dig M).length) ∧ ((dig M).drop k = (dig N).drop k)) (dig M).length ⟨Nat.le_refl _, by rw [List.drop_eq_nil_of_le (Nat.le_refl _), List.drop_eq_nil_of_le (by omega)]⟩ (sl 0 rfl (sl 1 rfl (sl 5 rfl sn))) en ?_
    rintro j ⟨hj, hdr⟩
    refine tri_sub (sl 0 rfl (sl 1 rfl (sl 5 rfl sn))) en ?_
    refine tri_seq ?_
    refine tri_seq ?_
    rcases Nat.eq_zero_or_pos j with h0 | h0
    · subst h0
      refine tri_reg mixed hcx ?_ _ _
      refine mv rfl ?_
      refine cge rfl rfl (decide_eq_false (by omega)) ?_
      refine ⟨by kernel_rfl, ?_⟩
      refine nx (sl 0 rfl (sl 1 rfl (sl 5 rfl (sl 24 rfl sn)))) en ?_
      refine tri_false rfl rfl ?_
      refine tri_exit ?_
      repeat (first | refine pn_then ?_ | refine pn_oth (by decide) ?_)
      refine pn_ex ?_
      refine nx sn en ?_
      refine tri_seq ?_
      refine tri_reg mixed hcx ?_ _ _
      refine asg rfl ?_
      refine ⟨by kernel_rfl, ?_⟩
      refine nx (sl 4 rfl sn) en ?_
      refine tri_ret ?_
      repeat (first | refine pn_thenr ?_ | refine pn_blkr ?_)
      exact ret1 hcx rfl (rv_tmp rfl) (ci (sgnc_eq (by rw [List.drop_zero, List.drop_zero] at hdr; rw [← dig_val M, ← dig_val N, hdr])).symm) en
    · obtain ⟨m, rfl⟩ : ∃ m, j = m + 1 := ⟨j - 1, by omega⟩
      refine tri_reg mixed hcx ?_ _ _
      refine mv rfl ?_
      refine cge rfl rfl (decide_eq_true (by omega)) ?_
      refine ⟨by kernel_rfl, ?_⟩
      refine nx (sl 0 rfl (sl 1 rfl (sl 5 rfl (sl 24 rfl sn)))) en ?_
      refine tri_true rfl rfl ?_
      refine tri_skip ?_
      refine nx (sl 0 rfl (sl 1 rfl (sl 5 rfl sn))) en ?_
      refine tri_seq ?_
      refine tri_block ?_
      refine tri_seq ?_
      refine tri_reg mixed hcx ?_ _ _
      refine mv rfl ?_
      refine mv rfl ?_
      refine ix rfl rfl slLs ⟨(by omega : _ = (m : Int)), by omega⟩ ?_
      refine lf rfl tyU32 ?_
      refine mv rfl ?_
      refine mv rfl ?_
      refine ix rfl rfl slLs ⟨(by omega : _ = (m : Int)), by omega⟩ ?_
      refine lf rfl tyU32 ?_
      refine cne rfl rfl rfl ?_
      refine ⟨by kernel_rfl, ?_⟩
      refine nx (sl 0 rfl (sl 1 rfl (sl 5 rfl (sl 35 rfl sn)))) en ?_
      refine tri_if rfl (fun hq => ?_) (fun hq => ?_)
      · refine tri_seq ?_
        refine tri_seq ?_
        refine tri_reg mixed hcx ?_ _ _
        refine mv rfl ?_
        refine mv rfl ?_
        refine ix rfl rfl slLs ⟨(by omega : _ = (m : Int)), by omega⟩ ?_
        refine lf rfl tyU32 ?_
        refine mv rfl ?_
        refine mv rfl ?_
        refine ix rfl rfl slLs ⟨(by omega : _ = (m : Int)), by omega⟩ ?_
        refine lf rfl tyU32 ?_
        refine clt rfl rfl rfl ?_
        refine ⟨by kernel_rfl, ?_⟩
        refine nx (sl 44 rfl sn) en ?_
        refine tri_if rfl (fun hc => ?_) (fun hc => ?_)
        · refine tri_seq ?_
          refine tri_reg mixed hcx ?_ _ _
          refine asg rfl ?_
          refine ⟨by kernel_rfl, ?_⟩
          refine nx (sl 4 rfl sn) en ?_
          refine tri_ret ?_
          repeat (first | refine pn_thenr ?_ | refine pn_blkr ?_)
          exact ret1 hcx rfl (rv_tmp rfl) (ci (sgnc_lt (by have := dig_cmp_lt (m := M) (n := N) (j := m) (by unfold lim; omega) (by unfold lim; omega) hdr hc; omega)).symm) en
        · refine tri_skip ?_
          refine nx sn en ?_
          refine tri_seq ?_
          refine tri_reg mixed hcx ?_ _ _
          refine asg rfl ?_
          refine ⟨by kernel_rfl, ?_⟩
          refine nx (sl 4 rfl sn) en ?_
          refine tri_ret ?_
          repeat (first | refine pn_thenr ?_ | refine pn_blkr ?_)
          exact ret1 hcx rfl (rv_tmp rfl) (ci (sgnc_gt (by have := dig_cmp_lt (m := N) (n := M) (j := m) (by unfold lim; omega) (by unfold lim; omega) hdr.symm (by rw [← getD_at, ← getD_at]; omega); omega)).symm) en
      · refine tri_skip ?_
        refine pn_blk ?_
        refine nx (sl 0 rfl (sl 1 rfl (sl 5 rfl sn))) en ?_
        refine tri_reg mixed hcx ?_ _ _
        refine mv rfl ?_
        refine sb _ rfl rfl rfl ⟨rfl, by omega, by omega⟩ ?_
        refine asg rfl ?_
        refine ⟨by kernel_rfl, ?_⟩
        exact pn_back m (by first | omega | (dsimp only; omega)) ⟨by omega, dig_drop (by unfold lim; omega) (by unfold lim; omega) hdr (by rw [← getD_at, ← getD_at]; omega)⟩ (sl 0 rfl (sl 1 rfl (sw 5 rfl (ci (by omega)) sn))) en

theorem gd {xs : List Int} (h : Lim xs) (k : Nat) : 0 ≤ xs.getD k cU.dflt ∧ xs.getD k cU.dflt < 4294967296 := h.at_ k
theorem c_Len32 {x : Int} (h : 0 ≤ x ∧ x < 4294967296) : Fn Tryz.prog 175 [T.c (.int .u32 x)] [] [] [] (T.c (.int .i64 ((nbits x.toNat : Nat) : Int))) :=
  fn_calls (args := [.int .u32 x]) fun w => (Tryz.bits_Len32 x w h.1 (by omega)).mono fun e w' ⟨h1, h2⟩ => ⟨by rw [h1, bitLen_nbits (by omega)], h2⟩
theorem c_LZ32 {x : Int} (h : 0 ≤ x ∧ x < 4294967296) : Fn Tryz.prog 198 [T.c (.int .u32 x)] [] [] [] (T.c (.int .i64 (32 - ((nbits x.toNat : Nat) : Int)))) :=
  fn_calls (args := [.int .u32 x]) fun w => (Tryz.bits_LeadingZeros32 x w h.1 (by omega)).mono fun e w' ⟨h1, h2⟩ => ⟨by rw [h1, bitLen_nbits (by omega)], h2⟩

theorem nat_Bits {N k : Nat} (hk : k ≤ 17592186044416) : Fn Tryz.prog 139 [T.L N k] [] [] [] (T.c (.int .i64 ((nbits N : Nat) : Int))) := by
  refine fn_of Tryz.func139 rfl (by show 1 ≤ 20; decide) fun cx hcx => ?_
  refine tri_sub (sl 0 rfl sn) en ?_
  refine tri_ex 0 rfl fun xs ⟨hl0, hv0, hb0⟩ => ?_
  have hN := lim_val hl0 hv0 hb0; unfold lim at hN
  refine tri_seq ?_
  refine tri_reg mixed hcx ?_ _ _
  refine asg rfl ?_
  refine ⟨by kernel_rfl, ?_⟩
  refine nx (sl 0 rfl sn) en ?_
  refine tri_seq ?_
  refine tri_reg mixed hcx ?_ _ _
  refine mv rfl ?_
  refine ca rfl (h := nat_trim (by omega)) (hn := ?_)
  refine asg rfl ?_
  refine ⟨by kernel_rfl, ?_⟩
  refine nx (sl 0 rfl sn) en ?_
  refine tri_seq ?_
  refine tri_seq ?_
  refine tri_reg mixed hcx ?_ _ _
  refine mv rfl ?_
  refine ln slLs rfl ?_
  refine ceq rfl rfl rfl ?_
  refine ⟨by kernel_rfl, ?_⟩
  refine nx (sl 0 rfl (sl 7 rfl sn)) en ?_
  refine tri_if rfl (fun hc => ?_) (fun hc => ?_)
  · refine tri_seq ?_
    refine tri_reg mixed hcx ?_ _ _
    refine asg rfl ?_
    refine ⟨by kernel_rfl, ?_⟩
    refine nx (sl 2 rfl sn) en ?_
    refine tri_ret ?_
    repeat (first | refine pn_thenr ?_ | refine pn_blkr ?_)
    exact ret1 hcx rfl (rv_tmp rfl) (ci (by have : N = 0 := by { have := dig_val N; rw [List.eq_nil_of_length_eq_zero (by omega : (dig N).length = 0)] at this; simpa [val] using this.symm }; subst this; rfl)) en
  · obtain ⟨m, hm⟩ : ∃ m, (dig N).length = m + 1 := ⟨(dig N).length - 1, by omega⟩
    have hb := nbits_top (n := N) (k := m) hm; rw [← getD_at] at hb; have bx := gd (dig_lim N) m; have hb32 : nbits ((dig N).getD m cU.dflt).toNat ≤ 32 := nbits_le (by omega)
    refine tri_skip ?_
    refine nx (sl 0 rfl sn) en ?_
    refine tri_seq ?_
    refine tri_reg mixed hcx ?_ _ _
    refine mv rfl ?_
    refine ln slLs rfl ?_
    refine sb _ rfl rfl rfl ⟨rfl, by omega, by omega⟩ ?_
    refine ml _ rfl rfl rfl ⟨rfl, by omega, by omega⟩ ?_
    refine mv rfl ?_
    refine mv rfl ?_
    refine ln slLs rfl ?_
    refine sb _ rfl rfl rfl ⟨rfl, by omega, by omega⟩ ?_
    refine ix rfl rfl slLs ⟨(by omega : _ = (m : Int)), by omega⟩ ?_
    refine lf rfl tyU32 ?_
    refine ca rfl (h := c_Len32 (by omega)) (hn := ?_)
    refine ad (((nbits N : Nat) : Int)) rfl rfl rfl (by omega) ?_
    refine asg rfl ?_
    refine ⟨by kernel_rfl, ?_⟩
    refine nx (sl 2 rfl sn) en ?_
    refine tri_ret ?_
    repeat (first | refine pn_thenr ?_ | refine pn_blkr ?_)
    exact ret1 hcx rfl (rv_tmp rfl) (.refl _) en

theorem nat_Add {M N k l : Nat} (hk : k ≤ 17592186044416) (hl : l ≤ 17592186044416) : Fn Tryz.prog 183 [T.L M k, T.L N l] [] [] [] (T.l cU (dig (M + N))) := by
  refine fn_of Tryz.func183 rfl (by show 2 ≤ 58; decide) fun cx hcx => ?_
  refine tri_sub (sl 0 rfl (sl 1 rfl sn)) en ?_
  refine tri_ex 0 rfl fun xs ⟨hl0, hv0, hb0⟩ => ?_
  refine tri_ex 1 rfl fun ys ⟨hl1, hv1, hb1⟩ => ?_
  have hM := lim_val hl0 hv0 hb0; have hN := lim_val hl1 hv1 hb1; unfold lim at hM hN
  refine tri_seq ?_
  refine tri_reg mixed hcx ?_ _ _
  refine asg rfl ?_
  refine ⟨by kernel_rfl, ?_⟩
  refine nx (sl 0 rfl (sl 1 rfl sn)) en ?_
  refine tri_join (ι := List Int × List Int) (fun (xs, ys) => [(0, T.l cU xs), (1, T.l cU ys)]) (fun (xs, ys) => []) (fun (xs, ys) => (Lim xs) ∧ (Lim ys) ∧ (ys.length ≤ xs.length) ∧ (val xs + val ys = ((M + N : Nat) : Int)) ∧ (xs.length ≤ 17592186044416)) ?_ ?_
  · refine tri_seq ?_
    refine tri_reg mixed hcx ?_ _ _
    refine mv rfl ?_
    refine ln slLs rfl ?_
    refine mv rfl ?_
    refine ln slLs rfl ?_
    refine clt rfl rfl rfl ?_
    refine ⟨by kernel_rfl, ?_⟩
    refine nx (sl 0 rfl (sl 1 rfl (sl 12 rfl sn))) en ?_
    refine tri_if rfl (fun hc => ?_) (fun hc => ?_)
    · refine tri_reg mixed hcx ?_ _ _
      refine mv rfl ?_
      refine mv rfl ?_
      refine asg rfl ?_
      refine asg rfl ?_
      refine ⟨by kernel_rfl, ?_⟩
      first | exact pn_join (xs, ys) ⟨hl0, hl1, by omega, by omega, by omega⟩ (sl 0 rfl (sl 1 rfl sn)) en | exact pn_join (ys, xs) ⟨hl1, hl0, by omega, by omega, by omega⟩ (sl 0 rfl (sl 1 rfl sn)) en
    · refine tri_skip ?_
      first | exact pn_join (xs, ys) ⟨hl0, hl1, by omega, by omega, by omega⟩ (sl 0 rfl (sl 1 rfl sn)) en | exact pn_join (ys, xs) ⟨hl1, hl0, by omega, by omega, by omega⟩ (sl 0 rfl (sl 1 rfl sn)) en
  · rintro ⟨xs, ys⟩ ⟨hx, hy, hle, hs, hb⟩
    refine tri_sub (sl 0 rfl (sl 1 rfl sn)) en ?_
    refine tri_seq ?_
    refine tri_reg mixed hcx ?_ _ _
    refine mv rfl ?_
    refine ln slLs rfl ?_
    refine ad (((xs.length + 1 : Nat) : Int)) rfl rfl rfl (by omega) ?_
    refine mkz (c := cU) (n := xs.length + 1) 313 slLs rfl (by omega) (fun u => ⟨zvU32, zrU u⟩) (by decide) ?_
    refine asg rfl ?_
    refine ⟨by kernel_rfl, ?_⟩
    refine nx (sl 0 rfl (sl 1 rfl (sl 5 rfl sn))) (el 313 rfl en) ?_
    refine tri_seq ?_
    refine tri_reg mixed hcx ?_ _ _
    refine asg rfl ?_
    refine ⟨by kernel_rfl, ?_⟩
    refine nx (sl 0 rfl (sl 1 rfl (sl 5 rfl (sl 6 rfl sn)))) (el 313 rfl en) ?_
    refine tri_seq ?_
    refine tri_seq ?_
    refine tri_reg mixed hcx ?_ _ _
    refine mv rfl ?_
    refine ln slLs rfl ?_
    refine mv rfl ?_
    refine ⟨by kernel_rfl, ?_⟩
    refine nx (sl 0 rfl (sl 1 rfl (sl 5 rfl (sl 6 rfl (sl 20 rfl (sl 21 rfl sn)))))) (el 313 rfl en) ?_
    refine tri_block ?_
    refine tri_loop (ι := Nat × Int × List Int) (fun (k, c, zs) => [(0, T.l cU xs), (1, T.l cU ys), (5, T.o 313), (6, T.c (.int .u64 c)), (20, T.c (.int .i64 (xs.length : Int))), (21, T.c (.int .i64 (k : Int)))]) (fun (k, c, zs) => [(313, some (Ent.row cU 119 zs))]) (fun (k, c, zs) => xs.length - k) (fun (k, c, zs) => (k ≤ xs.length) ∧ (addI xs ys zs (xs.length + 1) k c)) (0, 0, List.replicate (xs.length + 1) 0) ⟨Nat.zero_le _, addI_start xs ys _⟩ (sl 0 rfl (sl 1 rfl (sl 5 rfl (sl 6 rfl (sl 20 rfl (sl 21 rfl sn)))))) (el 313 rfl en) ?_
    rintro ⟨k, c, zs⟩ ⟨hk, hI⟩
    refine tri_sub (sl 0 rfl (sl 1 rfl (sl 5 rfl (sl 6 rfl (sl 20 rfl (sl 21 rfl sn)))))) (el 313 rfl en) ?_
    refine tri_seq ?_
    refine tri_reg mixed hcx ?_ _ _
    refine clt rfl rfl rfl ?_
    refine ⟨by kernel_rfl, ?_⟩
    refine nx (sl 0 rfl (sl 1 rfl (sl 5 rfl (sl 6 rfl (sl 20 rfl (sl 21 rfl (sl 22 rfl sn))))))) (el 313 rfl en) ?_
    refine tri_seq ?_
    refine tri_if rfl (fun hc => ?_) (fun hc => ?_)
    · have bx := gd hx k; have hbd := hI.bd; have hlz := hI.len; have bY := gd hy k
      refine tri_skip ?_
      refine nx (sl 0 rfl (sl 1 rfl (sl 5 rfl (sl 6 rfl (sl 20 rfl (sl 21 rfl sn)))))) (el 313 rfl en) ?_
      refine tri_seq ?_
      refine tri_block ?_
      refine tri_seq ?_
      refine tri_reg mixed hcx ?_ _ _
      refine mv rfl ?_
      refine asg rfl ?_
      refine ⟨by kernel_rfl, ?_⟩
      refine nx (sl 0 rfl (sl 1 rfl (sl 5 rfl (sl 6 rfl (sl 7 rfl (sl 20 rfl (sl 21 rfl sn))))))) (el 313 rfl en) ?_
      refine tri_seq ?_
      refine tri_reg mixed hcx ?_ _ _
      refine mv rfl ?_
      refine mv rfl ?_
      refine mv rfl ?_
      refine ix rfl rfl slLs ⟨rfl, by omega⟩ ?_
      refine lf rfl tyU32 ?_
      refine cvt _ rfl cvU32U64 rfl ⟨rfl, by omega, by omega⟩ ?_
      refine ad _ rfl rfl rfl ⟨rfl, by omega, by omega⟩ ?_
      refine asg rfl ?_
      refine ⟨by kernel_rfl, ?_⟩
      refine nx (sl 0 rfl (sl 1 rfl (sl 5 rfl (sl 6 rfl (sl 7 rfl (sl 20 rfl (sl 21 rfl sn))))))) (el 313 rfl en) ?_
      refine tri_join (ι := Int) (fun y => [(0, T.l cU xs), (1, T.l cU ys), (5, T.o 313), (6, T.c (.int .u64 (c + xs.getD k cU.dflt + y))), (7, T.c (.int .i64 (k : Int))), (20, T.c (.int .i64 (xs.length : Int))), (21, T.c (.int .i64 (k : Int)))]) (fun y => [(313, some (Ent.row cU 119 zs))]) (fun y => (0 ≤ y ∧ y < 4294967296) ∧ (val (ys.take (k + 1)) = val (ys.take k) + B k * y)) ?_ ?_
      · refine tri_seq ?_
        refine tri_reg mixed hcx ?_ _ _
        refine mv rfl ?_
        refine mv rfl ?_
        refine ln slLs rfl ?_
        refine clt rfl rfl rfl ?_
        refine ⟨by kernel_rfl, ?_⟩
        refine nx (sl 0 rfl (sl 1 rfl (sl 5 rfl (sl 6 rfl (sl 7 rfl (sl 20 rfl (sl 21 rfl (sl 34 rfl sn)))))))) (el 313 rfl en) ?_
        refine tri_if rfl (fun hd => ?_) (fun hd => ?_)
        · refine tri_reg mixed hcx ?_ _ _
          refine mv rfl ?_
          refine mv rfl ?_
          refine mv rfl ?_
          refine ix rfl rfl slLs ⟨rfl, by omega⟩ ?_
          refine lf rfl tyU32 ?_
          refine cvt _ rfl cvU32U64 rfl ⟨rfl, by omega, by omega⟩ ?_
          refine ad _ rfl rfl rfl ⟨rfl, by omega, by omega⟩ ?_
          refine asg rfl ?_
          refine ⟨by kernel_rfl, ?_⟩
          first | exact pn_join (ys.getD k cU.dflt) ⟨bY, val_take_succ (by omega)⟩ (sl 0 rfl (sl 1 rfl (sl 5 rfl (sl 6 rfl (sl 7 rfl (sl 20 rfl (sl 21 rfl sn))))))) (el 313 rfl en) | exact pn_join 0 ⟨by omega, by rw [List.take_of_length_le (by omega), List.take_of_length_le (by omega)]; omega⟩ (sl 0 rfl (sl 1 rfl (sl 5 rfl (sw 6 rfl (ci (by omega)) (sl 7 rfl (sl 20 rfl (sl 21 rfl sn))))))) (el 313 rfl en)
        · refine tri_skip ?_
          first | exact pn_join (ys.getD k cU.dflt) ⟨bY, val_take_succ (by omega)⟩ (sl 0 rfl (sl 1 rfl (sl 5 rfl (sl 6 rfl (sl 7 rfl (sl 20 rfl (sl 21 rfl sn))))))) (el 313 rfl en) | exact pn_join 0 ⟨by omega, by rw [List.take_of_length_le (by omega), List.take_of_length_le (by omega)]; omega⟩ (sl 0 rfl (sl 1 rfl (sl 5 rfl (sw 6 rfl (ci (by omega)) (sl 7 rfl (sl 20 rfl (sl 21 rfl sn))))))) (el 313 rfl en)
      · rintro y ⟨hy0, hyy⟩
        refine tri_sub (sl 0 rfl (sl 1 rfl (sl 5 rfl (sl 6 rfl (sl 7 rfl (sl 20 rfl (sl 21 rfl sn))))))) (el 313 rfl en) ?_
        refine tri_seq ?_
        refine tri_reg mixed hcx ?_ _ _
        refine mv rfl ?_
        refine mv rfl ?_
        refine mv rfl ?_
        refine cvm _ rfl cvU64U32 rfl ?_
        refine ixo rfl rfl rfl slLs ⟨rfl, by omega⟩ ?_
        refine so rfl rfl rfl (.refl _) tyU32 ⟨rfl, by omega⟩ ?_
        refine ⟨by kernel_rfl, ?_⟩
        refine nx (sl 0 rfl (sl 1 rfl (sl 5 rfl (sl 6 rfl (sl 20 rfl (sl 21 rfl sn)))))) (el 313 rfl en) ?_
        refine tri_reg mixed hcx ?_ _ _
        refine mv rfl ?_
        refine shR (s := 32) ((c + xs.getD k cU.dflt + y) / 4294967296) rfl rfl rfl ⟨by omega, by omega, by decide⟩ ?_
        refine asg rfl ?_
        refine ⟨by kernel_rfl, ?_⟩
        refine pn_blk ?_
        refine nx (sl 0 rfl (sl 1 rfl (sl 5 rfl (sl 6 rfl (sl 20 rfl (sl 21 rfl sn)))))) (el 313 rfl en) ?_
        refine tri_reg mixed hcx ?_ _ _
        refine ad (((k + 1 : Nat) : Int)) rfl rfl rfl (by omega) ?_
        refine mv rfl ?_
        refine ⟨by kernel_rfl, ?_⟩
        exact pn_back (k + 1, (c + xs.getD k cU.dflt + y) / 4294967296, zs.set k ((c + xs.getD k cU.dflt + y) % 4294967296)) (by first | omega | (dsimp only; omega)) ⟨by omega, addI_step hI (by omega) (by omega) hx hy0.1 hy0.2 hyy _ rfl⟩ (sl 0 rfl (sl 1 rfl (sl 5 rfl (sl 6 rfl (sl 20 rfl (sl 21 rfl sn)))))) (el 313 rfl en)
    · refine tri_exit ?_
      repeat (first | refine pn_then ?_ | refine pn_oth (by decide) ?_)
      refine pn_ex ?_
      obtain rfl : k = xs.length := by omega
      have hE := addI_end hI rfl hle c rfl; have hlz := hI.len; have hbd := hI.bd
      have hE1 := hE.1.trans hs; have hE2 := hE.2; have hE3 : (zs.set xs.length c).length ≤ xs.length + 1 := by rw [List.length_set]; omega
      refine nx (sl 0 rfl (sl 5 rfl (sl 6 rfl sn))) (el 313 rfl en) ?_
      refine tri_seq ?_
      refine tri_reg mixed hcx ?_ _ _
      refine mv rfl ?_
      refine mv rfl ?_
      refine ln slLs rfl ?_
      refine mv rfl ?_
      refine cvm (c) rfl cvU64U32 (by omega) ?_
      refine ixo rfl rfl rfl slLs ⟨rfl, by omega⟩ ?_
      refine so rfl rfl rfl (.refl _) tyU32 ⟨rfl, by omega⟩ ?_
      refine ⟨by kernel_rfl, ?_⟩
      refine nx (sl 5 rfl sn) (el 313 rfl en) ?_
      refine tri_seq ?_
      refine tri_fz 313 rfl ?_
      refine tri_rd 5 313 rfl rfl ?_
      refine tri_reg mixed hcx ?_ _ _
      refine mv rfl ?_
      refine ca rfl (h := nat_trim (by omega)) (hn := ?_)
      refine asg rfl ?_
      refine ⟨by kernel_rfl, ?_⟩
      refine nx (sl 4 rfl sn) (el 313 rfl en) ?_
      refine tri_ret ?_
      repeat (first | refine pn_thenr ?_ | refine pn_blkr ?_)
      exact ret1 hcx rfl (rv_tmp rfl) (.refl _) en

theorem nat_less {xs ys : List Int} {M N : Nat} (hx : Lim xs) (hy : Lim ys) (hle : ys.length ≤ xs.length) (hvx : val xs = M) (hvy : val ys = N) (hMN : N ≤ M) (hl : xs.length ≤ 17592186044416) : Fn Tryz.prog 200 [T.l cU xs, T.l cU ys] [] [] [] (T.l cU (dig (M - N))) := by
  refine fn_of Tryz.func200 rfl (by show 2 ≤ 45; decide) fun cx hcx => ?_
  refine tri_sub (sl 0 rfl (sl 1 rfl sn)) en ?_
  refine tri_seq ?_
  refine tri_reg mixed hcx ?_ _ _
  refine asg rfl ?_
  refine ⟨by kernel_rfl, ?_⟩
  refine nx (sl 0 rfl (sl 1 rfl sn)) en ?_
  refine tri_seq ?_
  refine tri_reg mixed hcx ?_ _ _
  refine mv rfl ?_
  refine ln slLs rfl ?_
  refine mkz (c := cU) (n := xs.length) 112 slLs rfl (by omega) (fun u => ⟨zvU32, zrU u⟩) (by decide) ?_
  refine asg rfl ?_
  refine ⟨by kernel_rfl, ?_⟩
  refine nx (sl 0 rfl (sl 1 rfl (sl 5 rfl sn))) (el 112 rfl en) ?_
  refine tri_seq ?_
  refine tri_reg mixed hcx ?_ _ _
  refine asg rfl ?_
  refine ⟨by kernel_rfl, ?_⟩
  refine nx (sl 0 rfl (sl 1 rfl (sl 5 rfl (sl 6 rfl sn)))) (el 112 rfl en) ?_
  refine tri_seq ?_
  refine tri_seq ?_
  refine tri_reg mixed hcx ?_ _ _
  refine mv rfl ?_
  refine ln slLs rfl ?_
  refine mv rfl ?_
  refine ⟨by kernel_rfl, ?_⟩
  refine nx (sl 0 rfl (sl 1 rfl (sl 5 rfl (sl 6 rfl (sl 13 rfl (sl 14 rfl sn)))))) (el 112 rfl en) ?_
  refine tri_block ?_
  refine tri_loop (ι := Nat × Int × List Int) (fun (k, b, zs) => [(0, T.l cU xs), (1, T.l cU ys), (5, T.o 112), (6, T.c (.int .u64 b)), (13, T.c (.int .i64 (xs.length : Int))), (14, T.c (.int .i64 (k : Int)))]) (fun (k, b, zs) => [(112, some (Ent.row cU 119 zs))]) (fun (k, b, zs) => xs.length - k) (fun (k, b, zs) => (k ≤ xs.length) ∧ (lessI xs ys zs k b)) (0, 0, List.replicate xs.length 0) ⟨Nat.zero_le _, lessI_start xs ys⟩ (sl 0 rfl (sl 1 rfl (sl 5 rfl (sl 6 rfl (sl 13 rfl (sl 14 rfl sn)))))) (el 112 rfl en) ?_
  rintro ⟨k, b, zs⟩ ⟨hk, hI⟩
  refine tri_sub (sl 0 rfl (sl 1 rfl (sl 5 rfl (sl 6 rfl (sl 13 rfl (sl 14 rfl sn)))))) (el 112 rfl en) ?_
  refine tri_seq ?_
  refine tri_reg mixed hcx ?_ _ _
  refine clt rfl rfl rfl ?_
  refine ⟨by kernel_rfl, ?_⟩
  refine nx (sl 0 rfl (sl 1 rfl (sl 5 rfl (sl 6 rfl (sl 13 rfl (sl 14 rfl (sl 15 rfl sn))))))) (el 112 rfl en) ?_
  refine tri_seq ?_
  refine tri_if rfl (fun hc => ?_) (fun hc => ?_)
  · have bx := gd hx k; have hbd := hI.1; have hbd1 := hI.2.1; have hlz := hI.2.2.1; have bY := gd hy k
    refine tri_skip ?_
    refine nx (sl 0 rfl (sl 1 rfl (sl 5 rfl (sl 6 rfl (sl 13 rfl (sl 14 rfl sn)))))) (el 112 rfl en) ?_
    refine tri_seq ?_
    refine tri_block ?_
    refine tri_seq ?_
    refine tri_reg mixed hcx ?_ _ _
    refine mv rfl ?_
    refine asg rfl ?_
    refine ⟨by kernel_rfl, ?_⟩
    refine nx (sl 0 rfl (sl 1 rfl (sl 5 rfl (sl 6 rfl (sl 7 rfl (sl 13 rfl (sl 14 rfl sn))))))) (el 112 rfl en) ?_
    refine tri_seq ?_
    refine tri_reg mixed hcx ?_ _ _
    refine mv rfl ?_
    refine mv rfl ?_
    refine ix rfl rfl slLs ⟨rfl, by omega⟩ ?_
    refine lf rfl tyU32 ?_
    refine cvt _ rfl cvU32U64 rfl ⟨rfl, by omega, by omega⟩ ?_
    refine mv rfl ?_
    refine sbm _ rfl rfl ⟨rfl, rfl⟩ rfl ?_
    refine asg rfl ?_
    refine ⟨by kernel_rfl, ?_⟩
    refine nx (sl 0 rfl (sl 1 rfl (sl 5 rfl (sl 7 rfl (sl 8 rfl (sl 13 rfl (sl 14 rfl sn))))))) (el 112 rfl en) ?_
    refine tri_join (ι := Int × Int) (fun (v, y) => [(0, T.l cU xs), (1, T.l cU ys), (5, T.o 112), (7, T.c (.int .i64 (k : Int))), (8, T.c (.int .u64 v)), (13, T.c (.int .i64 (xs.length : Int))), (14, T.c (.int .i64 (k : Int)))]) (fun (v, y) => [(112, some (Ent.row cU 119 zs))]) (fun (v, y) => (v = (xs.getD k cU.dflt - b - y) % 18446744073709551616) ∧ (0 ≤ y ∧ y < 4294967296) ∧ (val (ys.take (k + 1)) = val (ys.take k) + B k * y)) ?_ ?_
    · refine tri_seq ?_
      refine tri_reg mixed hcx ?_ _ _
      refine mv rfl ?_
      refine mv rfl ?_
      refine ln slLs rfl ?_
      refine clt rfl rfl rfl ?_
      refine ⟨by kernel_rfl, ?_⟩
      refine nx (sl 0 rfl (sl 1 rfl (sl 5 rfl (sl 7 rfl (sl 8 rfl (sl 13 rfl (sl 14 rfl (sl 27 rfl sn)))))))) (el 112 rfl en) ?_
      refine tri_if rfl (fun hd => ?_) (fun hd => ?_)
      · refine tri_reg mixed hcx ?_ _ _
        refine mv rfl ?_
        refine mv rfl ?_
        refine mv rfl ?_
        refine ix rfl rfl slLs ⟨rfl, by omega⟩ ?_
        refine lf rfl tyU32 ?_
        refine cvt _ rfl cvU32U64 rfl ⟨rfl, by omega, by omega⟩ ?_
        refine sbm _ rfl rfl ⟨rfl, rfl⟩ rfl ?_
        refine asg rfl ?_
        refine ⟨by kernel_rfl, ?_⟩
        first | exact pn_join (((xs.getD k cU.dflt - b) % 18446744073709551616 - ys.getD k cU.dflt) % 18446744073709551616, ys.getD k cU.dflt) ⟨by first | omega | (dsimp only; omega), bY, val_take_succ (by omega)⟩ (sl 0 rfl (sl 1 rfl (sl 5 rfl (sl 7 rfl (sl 8 rfl (sl 13 rfl (sl 14 rfl sn))))))) (el 112 rfl en) | exact pn_join ((xs.getD k cU.dflt - b) % 18446744073709551616, 0) ⟨by first | omega | (dsimp only; omega), by omega, by rw [List.take_of_length_le (by omega), List.take_of_length_le (by omega)]; omega⟩ (sl 0 rfl (sl 1 rfl (sl 5 rfl (sl 7 rfl (sl 8 rfl (sl 13 rfl (sl 14 rfl sn))))))) (el 112 rfl en)
      · refine tri_skip ?_
        first | exact pn_join (((xs.getD k cU.dflt - b) % 18446744073709551616 - ys.getD k cU.dflt) % 18446744073709551616, ys.getD k cU.dflt) ⟨by first | omega | (dsimp only; omega), bY, val_take_succ (by omega)⟩ (sl 0 rfl (sl 1 rfl (sl 5 rfl (sl 7 rfl (sl 8 rfl (sl 13 rfl (sl 14 rfl sn))))))) (el 112 rfl en) | exact pn_join ((xs.getD k cU.dflt - b) % 18446744073709551616, 0) ⟨by first | omega | (dsimp only; omega), by omega, by rw [List.take_of_length_le (by omega), List.take_of_length_le (by omega)]; omega⟩ (sl 0 rfl (sl 1 rfl (sl 5 rfl (sl 7 rfl (sl 8 rfl (sl 13 rfl (sl 14 rfl sn))))))) (el 112 rfl en)
    · rintro ⟨v, y⟩ ⟨hv, hy0, hyy⟩
      refine tri_sub (sl 0 rfl (sl 1 rfl (sl 5 rfl (sl 7 rfl (sl 8 rfl (sl 13 rfl (sl 14 rfl sn))))))) (el 112 rfl en) ?_
      refine tri_seq ?_
      refine tri_reg mixed hcx ?_ _ _
      refine mv rfl ?_
      refine mv rfl ?_
      refine mv rfl ?_
      refine cvm _ rfl cvU64U32 rfl ?_
      refine ixo rfl rfl rfl slLs ⟨rfl, by omega⟩ ?_
      refine so rfl rfl rfl (.refl _) tyU32 ⟨rfl, by omega⟩ ?_
      refine ⟨by kernel_rfl, ?_⟩
      refine nx (sl 0 rfl (sl 1 rfl (sl 5 rfl (sl 8 rfl (sl 13 rfl (sl 14 rfl sn)))))) (el 112 rfl en) ?_
      refine tri_reg mixed hcx ?_ _ _
      refine mv rfl ?_
      refine shR (s := 63) (v / 9223372036854775808) rfl rfl rfl ⟨by omega, by omega, by decide⟩ ?_
      refine asg rfl ?_
      refine ⟨by kernel_rfl, ?_⟩
      refine pn_blk ?_
      refine nx (sl 0 rfl (sl 1 rfl (sl 5 rfl (sl 6 rfl (sl 13 rfl (sl 14 rfl sn)))))) (el 112 rfl en) ?_
      refine tri_reg mixed hcx ?_ _ _
      refine ad (((k + 1 : Nat) : Int)) rfl rfl rfl (by omega) ?_
      refine mv rfl ?_
      refine ⟨by kernel_rfl, ?_⟩
      exact pn_back (k + 1, v / 9223372036854775808, zs.set k (v % 4294967296)) (by first | omega | (dsimp only; omega)) ⟨by omega, lessI_step hI (by omega) hx hy0.1 hy0.2 hyy _ hv⟩ (sl 0 rfl (sl 1 rfl (sl 5 rfl (sl 6 rfl (sl 13 rfl (sl 14 rfl sn)))))) (el 112 rfl en)
  · refine tri_exit ?_
    repeat (first | refine pn_then ?_ | refine pn_oth (by decide) ?_)
    refine pn_ex ?_
    obtain rfl : k = xs.length := by omega
    have hE1 : val zs = ((M - N : Nat) : Int) := by { have := lessI_end hI hx hy hle (by omega); omega }
    have hE2 := hI.lim; have hE3 : zs.length ≤ xs.length := Nat.le_of_eq hI.2.2.1
    refine nx (sl 5 rfl sn) (el 112 rfl en) ?_
    refine tri_seq ?_
    refine tri_fz 112 rfl ?_
    refine tri_rd 5 112 rfl rfl ?_
    refine tri_reg mixed hcx ?_ _ _
    refine mv rfl ?_
    refine ca rfl (h := nat_trim (by omega)) (hn := ?_)
    refine asg rfl ?_
    refine ⟨by kernel_rfl, ?_⟩
    refine nx (sl 4 rfl sn) (el 112 rfl en) ?_
    refine tri_ret ?_
    repeat (first | refine pn_thenr ?_ | refine pn_blkr ?_)
    exact ret1 hcx rfl (rv_tmp rfl) (.refl _) en

theorem sgnc_ge0 {M N : Nat} (h : N ≤ M) : 0 ≤ sgnc (M : Int) N := by unfold sgnc; split <;> (try split) <;> omega

theorem nat_Sub {M N k l : Nat} (hMN : N ≤ M) (hk : k ≤ 17592186044416) (hl : l ≤ 17592186044416) : Fn Tryz.prog 184 [T.L M k, T.L N l] [] [] [] (T.tup [T.l cU (dig (M - N)), T.c (.int .i64 0)]) := by
  refine fn_of Tryz.func184 rfl (by show 2 ≤ 15; decide) fun cx hcx => ?_
  refine tri_sub (sl 0 rfl (sl 1 rfl sn)) en ?_
  refine tri_ex 0 rfl fun xs ⟨hl0, hv0, hb0⟩ => ?_
  refine tri_ex 1 rfl fun ys ⟨hl1, hv1, hb1⟩ => ?_
  have hM := lim_val hl0 hv0 hb0; have hN := lim_val hl1 hv1 hb1; unfold lim at hM hN
  have hs := sgnc_ge0 hMN
  refine tri_seq ?_
  refine tri_reg mixed hcx ?_ _ _
  refine asg rfl ?_
  refine asg rfl ?_
  refine ⟨by kernel_rfl, ?_⟩
  refine nx (sl 0 rfl (sl 1 rfl sn)) en ?_
  refine tri_seq ?_
  refine tri_seq ?_
  refine tri_reg mixed hcx ?_ _ _
  refine mv rfl ?_
  refine mv rfl ?_
  refine ca rfl (h := nat_Cmp (by omega) (by omega)) (hn := ?_)
  refine clt rfl rfl (decide_eq_false (by omega)) ?_
  refine ⟨by kernel_rfl, ?_⟩
  refine nx (sl 0 rfl (sl 1 rfl (sl 9 rfl sn))) en ?_
  refine tri_false rfl rfl ?_
  refine tri_skip ?_
  refine nx (sl 0 rfl (sl 1 rfl sn)) en ?_
  refine tri_seq ?_
  refine tri_reg mixed hcx ?_ _ _
  refine mv rfl ?_
  refine ca rfl (h := nat_trim (by omega)) (hn := ?_)
  refine mv rfl ?_
  refine ca rfl (h := nat_trim (by omega)) (hn := ?_)
  refine ca rfl (h := nat_less (dig_lim _) (dig_lim _) (lim_mono (by omega)) (dig_val _) (dig_val _) (by omega) (by show (dig _).length ≤ _; omega)) (hn := ?_)
  refine asg rfl ?_
  refine asg rfl ?_
  refine ⟨by kernel_rfl, ?_⟩
  refine nx (sl 4 rfl (sl 5 rfl sn)) en ?_
  refine tri_ret ?_
  repeat (first | refine pn_thenr ?_ | refine pn_blkr ?_)
  exact ret2 hcx rfl (rv_tmp rfl) (rv_tmp rfl) (.refl _) en

theorem nat_Mul {M N k l : Nat} (hk : k ≤ 17592186044416) (hl : l ≤ 17592186044416) : Fn Tryz.prog 180 [T.L M k, T.L N l] [] [] [] (T.l cU (dig (M * N))) := by
  refine fn_of Tryz.func180 rfl (by show 2 ≤ 71; decide) fun cx hcx => ?_
  refine tri_sub (sl 0 rfl (sl 1 rfl sn)) en ?_
  refine tri_ex 0 rfl fun xs ⟨hl0, hv0, hb0⟩ => ?_
  refine tri_ex 1 rfl fun ys ⟨hl1, hv1, hb1⟩ => ?_
  have hM := lim_val hl0 hv0 hb0; have hN := lim_val hl1 hv1 hb1; unfold lim at hM hN
  refine tri_seq ?_
  refine tri_reg mixed hcx ?_ _ _
  refine asg rfl ?_
  refine ⟨by kernel_rfl, ?_⟩
  refine nx (sl 0 rfl (sl 1 rfl sn)) en ?_
  refine tri_seq ?_
  refine tri_reg mixed hcx ?_ _ _
  refine mv rfl ?_
  refine ca rfl (h := nat_trim (by omega)) (hn := ?_)
  refine mv rfl ?_
  refine ca rfl (h := nat_trim (by omega)) (hn := ?_)
  refine asg rfl ?_
  refine asg rfl ?_
  refine ⟨by kernel_rfl, ?_⟩
  refine nx (sl 0 rfl (sl 1 rfl sn)) en ?_
  refine tri_seq ?_
  refine tri_reg mixed hcx ?_ _ _
  refine mv rfl ?_
  refine ln slLs rfl ?_
  refine mv rfl ?_
  refine ln slLs rfl ?_
  refine ad ((((dig M).length + (dig N).length : Nat) : Int)) rfl rfl rfl (by omega) ?_
  refine mkz (c := cU) (n := (dig M).length + (dig N).length) 215 slLs rfl (by omega) (fun u => ⟨zvU32, zrU u⟩) (by decide) ?_
  refine asg rfl ?_
  refine ⟨by kernel_rfl, ?_⟩
  refine nx (sl 0 rfl (sl 1 rfl (sl 5 rfl sn))) (el 215 rfl en) ?_
  refine tri_seq ?_
  refine tri_seq ?_
  refine tri_reg mixed hcx ?_ _ _
  refine mv rfl ?_
  refine ln slLs rfl ?_
  refine mv rfl ?_
  refine ⟨by kernel_rfl, ?_⟩
  refine nx (sl 0 rfl (sl 1 rfl (sl 5 rfl (sl 20 rfl (sl 21 rfl sn))))) (el 215 rfl en) ?_
  refine tri_block ?_
  refine tri_loop (ι := Nat × List Int) (fun (i, zs) => [(0, T.l cU (dig M)), (1, T.l cU (dig N)), (5, T.o 215), (20, T.c (.int .i64 ((dig M).length : Int))), (21, T.c (.int .i64 (i : Int)))]) (fun (i, zs) => [(215, some (Ent.row cU 119 zs))]) (fun (i, zs) => (dig M).length - i) (fun (i, zs) => (i ≤ (dig M).length) ∧ (Nml.mulO (dig M) (dig N) zs ((dig M).length + (dig N).length) i)) (0, List.replicate ((dig M).length + (dig N).length) 0) ⟨Nat.zero_le _, Nml.mulO_start _ _ _⟩ (sl 0 rfl (sl 1 rfl (sl 5 rfl (sl 20 rfl (sl 21 rfl sn))))) (el 215 rfl en) ?_
  rintro ⟨i, zs⟩ ⟨hi, hO⟩
  refine tri_sub (sl 0 rfl (sl 1 rfl (sl 5 rfl (sl 20 rfl (sl 21 rfl sn))))) (el 215 rfl en) ?_
  refine tri_seq ?_
  refine tri_reg mixed hcx ?_ _ _
  refine clt rfl rfl rfl ?_
  refine ⟨by kernel_rfl, ?_⟩
  refine nx (sl 0 rfl (sl 1 rfl (sl 5 rfl (sl 20 rfl (sl 21 rfl (sl 22 rfl sn)))))) (el 215 rfl en) ?_
  refine tri_seq ?_
  refine tri_if rfl (fun hc => ?_) (fun hc => ?_)
  · refine tri_skip ?_
    refine nx (sl 0 rfl (sl 1 rfl (sl 5 rfl (sl 20 rfl (sl 21 rfl sn))))) (el 215 rfl en) ?_
    refine tri_seq ?_
    refine tri_block ?_
    refine tri_seq ?_
    refine tri_reg mixed hcx ?_ _ _
    refine mv rfl ?_
    refine asg rfl ?_
    refine ⟨by kernel_rfl, ?_⟩
    refine nx (sl 0 rfl (sl 1 rfl (sl 5 rfl (sl 6 rfl (sl 20 rfl (sl 21 rfl sn)))))) (el 215 rfl en) ?_
    refine tri_seq ?_
    refine tri_reg mixed hcx ?_ _ _
    refine asg rfl ?_
    refine ⟨by kernel_rfl, ?_⟩
    refine nx (sl 0 rfl (sl 1 rfl (sl 5 rfl (sl 6 rfl (sl 7 rfl (sl 20 rfl (sl 21 rfl sn))))))) (el 215 rfl en) ?_
    refine tri_seq ?_
    refine tri_seq ?_
    refine tri_reg mixed hcx ?_ _ _
    refine mv rfl ?_
    refine ln slLs rfl ?_
    refine mv rfl ?_
    refine ⟨by kernel_rfl, ?_⟩
    refine nx (sl 0 rfl (sl 1 rfl (sl 5 rfl (sl 6 rfl (sl 7 rfl (sl 20 rfl (sl 21 rfl (sl 25 rfl (sl 26 rfl sn))))))))) (el 215 rfl en) ?_
    refine tri_block ?_
    refine tri_loop (ι := Nat × Int × List Int) (fun (j, c, zs) => [(0, T.l cU (dig M)), (1, T.l cU (dig N)), (5, T.o 215), (6, T.c (.int .i64 (i : Int))), (7, T.c (.int .u64 c)), (20, T.c (.int .i64 ((dig M).length : Int))), (21, T.c (.int .i64 (i : Int))), (25, T.c (.int .i64 ((dig N).length : Int))), (26, T.c (.int .i64 (j : Int)))]) (fun (j, c, zs) => [(215, some (Ent.row cU 119 zs))]) (fun (j, c, zs) => (dig N).length - j) (fun (j, c, zs) => (j ≤ (dig N).length) ∧ (Nml.mulI (dig N) zs ((dig M).length + (dig N).length) i (val ((dig M).take i) * val (dig N)) (at_ (dig M) i) j c)) (0, 0, zs) ⟨Nat.zero_le _, Nml.mulI_start hO⟩ (sl 0 rfl (sl 1 rfl (sl 5 rfl (sl 6 rfl (sl 7 rfl (sl 20 rfl (sl 21 rfl (sl 25 rfl (sl 26 rfl sn))))))))) (el 215 rfl en) ?_
    rintro ⟨j, c, zs⟩ ⟨hj, hI⟩
    refine tri_sub (sl 0 rfl (sl 1 rfl (sl 5 rfl (sl 6 rfl (sl 7 rfl (sl 20 rfl (sl 21 rfl (sl 25 rfl (sl 26 rfl sn))))))))) (el 215 rfl en) ?_
    refine tri_seq ?_
    refine tri_reg mixed hcx ?_ _ _
    refine clt rfl rfl rfl ?_
    refine ⟨by kernel_rfl, ?_⟩
    refine nx (sl 0 rfl (sl 1 rfl (sl 5 rfl (sl 6 rfl (sl 7 rfl (sl 20 rfl (sl 21 rfl (sl 25 rfl (sl 26 rfl (sl 27 rfl sn)))))))))) (el 215 rfl en) ?_
    refine tri_seq ?_
    refine tri_if rfl (fun hd => ?_) (fun hd => ?_)
    · have bx := gd (dig_lim M) i; have bY := gd (dig_lim N) j; have hbd := hI.bd; have hlz := hI.len; have bz := gd hI.lim (i + j); have hmb := mul_bound bx.1 bx.2 bY.1 bY.2 hbd.1 hbd.2 bz.1 bz.2
      refine tri_skip ?_
      refine nx (sl 0 rfl (sl 1 rfl (sl 5 rfl (sl 6 rfl (sl 7 rfl (sl 20 rfl (sl 21 rfl (sl 25 rfl (sl 26 rfl sn))))))))) (el 215 rfl en) ?_
      refine tri_seq ?_
      refine tri_block ?_
      refine tri_seq ?_
      refine tri_reg mixed hcx ?_ _ _
      refine mv rfl ?_
      refine asg rfl ?_
      refine ⟨by kernel_rfl, ?_⟩
      refine nx (sl 0 rfl (sl 1 rfl (sl 5 rfl (sl 6 rfl (sl 7 rfl (sl 8 rfl (sl 20 rfl (sl 21 rfl (sl 25 rfl (sl 26 rfl sn)))))))))) (el 215 rfl en) ?_
      refine tri_seq ?_
      refine tri_reg mixed hcx ?_ _ _
      refine mv rfl ?_
      refine mv rfl ?_
      refine mv rfl ?_
      refine ix rfl rfl slLs ⟨rfl, by omega⟩ ?_
      refine lf rfl tyU32 ?_
      refine cvt _ rfl cvU32U64 rfl ⟨rfl, by omega, by omega⟩ ?_
      refine mv rfl ?_
      refine mv rfl ?_
      refine ix rfl rfl slLs ⟨rfl, by omega⟩ ?_
      refine lf rfl tyU32 ?_
      refine cvt _ rfl cvU32U64 rfl ⟨rfl, by omega, by omega⟩ ?_
      refine ml _ rfl rfl rfl ⟨rfl, by omega, by omega⟩ ?_
      refine mv rfl ?_
      refine mv rfl ?_
      refine mv rfl ?_
      refine ad (((i + j : Nat) : Int)) rfl rfl rfl (by omega) ?_
      refine ixo rfl rfl rfl slLs ⟨rfl, by omega⟩ ?_
      refine lo _ rfl rfl tyU32 ⟨rfl, rfl, by omega⟩ ?_
      refine cvt _ rfl cvU32U64 rfl ⟨rfl, by omega, by omega⟩ ?_
      refine ad _ rfl rfl rfl ⟨rfl, by omega, by omega⟩ ?_
      refine ad _ rfl rfl rfl ⟨rfl, by omega, by omega⟩ ?_
      refine asg rfl ?_
      refine ⟨by kernel_rfl, ?_⟩
      refine nx (sl 0 rfl (sl 1 rfl (sl 5 rfl (sl 6 rfl (sl 7 rfl (sl 8 rfl (sl 20 rfl (sl 21 rfl (sl 25 rfl (sl 26 rfl sn)))))))))) (el 215 rfl en) ?_
      refine tri_seq ?_
      refine tri_reg mixed hcx ?_ _ _
      refine mv rfl ?_
      refine mv rfl ?_
      refine mv rfl ?_
      refine ad (((i + j : Nat) : Int)) rfl rfl rfl (by omega) ?_
      refine mv rfl ?_
      refine cvm _ rfl cvU64U32 rfl ?_
      refine ixo rfl rfl rfl slLs ⟨rfl, by omega⟩ ?_
      refine so rfl rfl rfl (.refl _) tyU32 ⟨rfl, by omega⟩ ?_
      refine ⟨by kernel_rfl, ?_⟩
      refine nx (sl 0 rfl (sl 1 rfl (sl 5 rfl (sl 6 rfl (sl 7 rfl (sl 20 rfl (sl 21 rfl (sl 25 rfl (sl 26 rfl sn))))))))) (el 215 rfl en) ?_
      refine tri_reg mixed hcx ?_ _ _
      refine mv rfl ?_
      refine shR (s := 32) ((c + ((dig M).getD i cU.dflt * (dig N).getD j cU.dflt + zs.getD (i + j) cU.dflt)) / 4294967296) rfl rfl rfl ⟨by omega, by omega, by decide⟩ ?_
      refine asg rfl ?_
      refine ⟨by kernel_rfl, ?_⟩
      refine pn_blk ?_
      refine nx (sl 0 rfl (sl 1 rfl (sl 5 rfl (sl 6 rfl (sl 7 rfl (sl 20 rfl (sl 21 rfl (sl 25 rfl (sl 26 rfl sn))))))))) (el 215 rfl en) ?_
      refine tri_reg mixed hcx ?_ _ _
      refine ad (((j + 1 : Nat) : Int)) rfl rfl rfl (by omega) ?_
      refine mv rfl ?_
      refine ⟨by kernel_rfl, ?_⟩
      exact pn_back (j + 1, (c + ((dig M).getD i cU.dflt * (dig N).getD j cU.dflt + zs.getD (i + j) cU.dflt)) / 4294967296, zs.set (i + j) ((c + ((dig M).getD i cU.dflt * (dig N).getD j cU.dflt + zs.getD (i + j) cU.dflt)) % 4294967296)) (by first | omega | (dsimp only; omega)) ⟨by omega, Nml.mulI_step hI (by omega) (by omega) bx.1 bx.2 (dig_lim N) _ rfl⟩ (sl 0 rfl (sl 1 rfl (sl 5 rfl (sl 6 rfl (sl 7 rfl (sl 20 rfl (sl 21 rfl (sl 25 rfl (sl 26 rfl sn))))))))) (el 215 rfl en)
    · refine tri_exit ?_
      repeat (first | refine pn_then ?_ | refine pn_oth (by decide) ?_)
      refine pn_ex ?_
      obtain rfl : j = (dig N).length := by omega
      have hlz := hI.len; have hbd := hI.bd
      refine nx (sl 0 rfl (sl 1 rfl (sl 5 rfl (sl 6 rfl (sl 7 rfl (sl 20 rfl (sl 21 rfl sn))))))) (el 215 rfl en) ?_
      refine tri_reg mixed hcx ?_ _ _
      refine mv rfl ?_
      refine mv rfl ?_
      refine mv rfl ?_
      refine ln slLs rfl ?_
      refine ad (((i + (dig N).length : Nat) : Int)) rfl rfl rfl (by omega) ?_
      refine mv rfl ?_
      refine cvm (c) rfl cvU64U32 (by omega) ?_
      refine ixo rfl rfl rfl slLs ⟨rfl, by omega⟩ ?_
      refine so rfl rfl rfl (.refl _) tyU32 ⟨rfl, by omega⟩ ?_
      refine ⟨by kernel_rfl, ?_⟩
      refine pn_blk ?_
      refine nx (sl 0 rfl (sl 1 rfl (sl 5 rfl (sl 20 rfl (sl 21 rfl sn))))) (el 215 rfl en) ?_
      refine tri_reg mixed hcx ?_ _ _
      refine ad (((i + 1 : Nat) : Int)) rfl rfl rfl (by omega) ?_
      refine mv rfl ?_
      refine ⟨by kernel_rfl, ?_⟩
      exact pn_back (i + 1, zs.set (i + (dig N).length) c) (by first | omega | (dsimp only; omega)) ⟨by omega, Nml.mulO_step hI (by omega) (by omega)⟩ (sl 0 rfl (sl 1 rfl (sl 5 rfl (sl 20 rfl (sl 21 rfl sn))))) (el 215 rfl en)
  · refine tri_exit ?_
    repeat (first | refine pn_then ?_ | refine pn_oth (by decide) ?_)
    refine pn_ex ?_
    obtain rfl : i = (dig M).length := by omega
    have hE := Nml.mulO_end hO; have hE1 : val zs = ((M * N : Nat) : Int) := by rw [hE.1, dig_val, dig_val, Int.natCast_mul]
    have hE2 := hE.2; have hE3 : zs.length ≤ (dig M).length + (dig N).length := Nat.le_of_eq hO.len
    refine nx (sl 5 rfl sn) (el 215 rfl en) ?_
    refine tri_seq ?_
    refine tri_fz 215 rfl ?_
    refine tri_rd 5 215 rfl rfl ?_
    refine tri_reg mixed hcx ?_ _ _
    refine mv rfl ?_
    refine ca rfl (h := nat_trim (by omega)) (hn := ?_)
    refine asg rfl ?_
    refine ⟨by kernel_rfl, ?_⟩
    refine nx (sl 4 rfl sn) (el 215 rfl en) ?_
    refine tri_ret ?_
    repeat (first | refine pn_thenr ?_ | refine pn_blkr ?_)
    exact ret1 hcx rfl (rv_tmp rfl) (.refl _) en

theorem nat_short {us : List Int} {M V : Nat} (hx : Lim us) (hvx : val us = M) (hV0 : 0 < V) (hV : V < 4294967296) (hl : us.length ≤ 17592186044416) : Fn Tryz.prog 197 [T.l cU us, T.c (.int .u32 (V : Int))] [] [] [] (T.tup [T.l cU (dig (M / V)), T.c (.int .u32 ((M % V : Nat) : Int))]) := by
  refine fn_of Tryz.func197 rfl (by show 2 ≤ 43; decide) fun cx hcx => ?_
  refine tri_sub (sl 0 rfl (sl 1 rfl sn)) en ?_
  refine tri_seq ?_
  refine tri_reg mixed hcx ?_ _ _
  refine asg rfl ?_
  refine asg rfl ?_
  refine ⟨by kernel_rfl, ?_⟩
  refine nx (sl 0 rfl (sl 1 rfl sn)) en ?_
  refine tri_seq ?_
  refine tri_reg mixed hcx ?_ _ _
  refine mv rfl ?_
  refine ln slLs rfl ?_
  refine mkz (c := cU) (n := us.length) 112 slLs rfl (by omega) (fun u => ⟨zvU32, zrU u⟩) (by decide) ?_
  refine asg rfl ?_
  refine ⟨by kernel_rfl, ?_⟩
  refine nx (sl 0 rfl (sl 1 rfl (sl 6 rfl sn))) (el 112 rfl en) ?_
  refine tri_seq ?_
  refine tri_reg mixed hcx ?_ _ _
  refine asg rfl ?_
  refine ⟨by kernel_rfl, ?_⟩
  refine nx (sl 0 rfl (sl 1 rfl (sl 6 rfl (sl 7 rfl sn)))) (el 112 rfl en) ?_
  refine tri_seq ?_
  refine tri_seq ?_
  refine tri_reg mixed hcx ?_ _ _
  refine mv rfl ?_
  refine ln slLs rfl ?_
  refine sb _ rfl rfl rfl ⟨rfl, by omega, by omega⟩ ?_
  refine asg rfl ?_
  refine ⟨by kernel_rfl, ?_⟩
  refine nx (sl 0 rfl (sl 1 rfl (sl 6 rfl (sl 7 rfl (sl 8 rfl sn))))) (el 112 rfl en) ?_
  refine tri_block ?_
  refine tri_loop (ι := Nat × Nat × List Int) (fun (k, R, qs) => [(0, T.l cU us), (1, T.c (.int .u32 (V : Int))), (6, T.o 112), (7, T.c (.int .u64 (R : Int))), (8, T.c (.int .i64 ((k : Int) - 1)))]) (fun (k, R, qs) => [(112, some (Ent.row cU 119 qs))]) (fun (k, R, qs) => k) (fun (k, R, qs) => (k ≤ us.length) ∧ (dvI us qs V k R)) (us.length, 0, List.replicate us.length 0) ⟨Nat.le_refl _, dvI_start us hV0⟩ (sl 0 rfl (sl 1 rfl (sl 6 rfl (sl 7 rfl (sl 8 rfl sn))))) (el 112 rfl en) ?_
  rintro ⟨k, R, qs⟩ ⟨hk, hI⟩
  refine tri_sub (sl 0 rfl (sl 1 rfl (sl 6 rfl (sl 7 rfl (sl 8 rfl sn))))) (el 112 rfl en) ?_
  refine tri_seq ?_
  refine tri_seq ?_
  rcases Nat.eq_zero_or_pos k with h0 | h0
  · subst h0
    refine tri_reg mixed hcx ?_ _ _
    refine mv rfl ?_
    refine cge rfl rfl (decide_eq_false (by omega)) ?_
    refine ⟨by kernel_rfl, ?_⟩
    refine nx (sl 0 rfl (sl 1 rfl (sl 6 rfl (sl 7 rfl (sl 8 rfl (sl 16 rfl sn)))))) (el 112 rfl en) ?_
    refine tri_false rfl rfl ?_
    refine tri_exit ?_
    repeat (first | refine pn_then ?_ | refine pn_oth (by decide) ?_)
    refine pn_ex ?_
    refine nx (sl 6 rfl (sl 7 rfl sn)) (el 112 rfl en) ?_
    refine tri_seq ?_
    have hE := dvI_end hI hvx; have hE1 := hE.1; have hE2 := hI.2.1; have hE3 : qs.length ≤ us.length := Nat.le_of_eq hI.1
    have hR := hE.2; subst hR; have hmod := Nat.mod_lt M hV0
    refine tri_fz 112 rfl ?_
    refine tri_rd 6 112 rfl rfl ?_
    refine tri_reg mixed hcx ?_ _ _
    refine mv rfl ?_
    refine ca rfl (h := nat_trim (by omega)) (hn := ?_)
    refine mv rfl ?_
    refine cvm (((M % V : Nat) : Int)) rfl cvU64U32 (by omega) ?_
    refine asg rfl ?_
    refine asg rfl ?_
    refine ⟨by kernel_rfl, ?_⟩
    refine nx (sl 4 rfl (sl 5 rfl sn)) (el 112 rfl en) ?_
    refine tri_ret ?_
    repeat (first | refine pn_thenr ?_ | refine pn_blkr ?_)
    exact ret2 hcx rfl (rv_tmp rfl) (rv_tmp rfl) (.refl _) en
  · obtain ⟨m, rfl⟩ : ∃ m, k = m + 1 := ⟨k - 1, by omega⟩
    have bx := gd hx m; have hlz := hI.1; have hRV := hI.2.2.2.2; have hnl := nextR_lt hI hx; have hnv := nextR_val hx m R; rw [← getD_at] at hnv
    have hd : nextR us m R / V < 4294967296 := Nat.div_lt_of_lt_mul (by rw [Nat.mul_comm]; exact hnl)
    refine tri_reg mixed hcx ?_ _ _
    refine mv rfl ?_
    refine cge rfl rfl (decide_eq_true (by omega)) ?_
    refine ⟨by kernel_rfl, ?_⟩
    refine nx (sl 0 rfl (sl 1 rfl (sl 6 rfl (sl 7 rfl (sl 8 rfl (sl 16 rfl sn)))))) (el 112 rfl en) ?_
    refine tri_true rfl rfl ?_
    refine tri_skip ?_
    refine nx (sl 0 rfl (sl 1 rfl (sl 6 rfl (sl 7 rfl (sl 8 rfl sn))))) (el 112 rfl en) ?_
    refine tri_seq ?_
    refine tri_block ?_
    refine tri_seq ?_
    refine tri_reg mixed hcx ?_ _ _
    refine mv rfl ?_
    refine shL (s := 32) ((R : Int) * 4294967296) rfl rfl rfl rfl ⟨by omega, by omega, by omega, by decide⟩ ?_
    refine mv rfl ?_
    refine mv rfl ?_
    refine ix rfl rfl slLs ⟨(by omega : _ = (m : Int)), by omega⟩ ?_
    refine lf rfl tyU32 ?_
    refine cvt _ rfl cvU32U64 rfl ⟨rfl, by omega, by omega⟩ ?_
    refine orr (((nextR us m R : Nat) : Int)) rfl rfl (by refine Eq.trans (or_u64 32 (by omega) (by omega) (by omega) bx.1 (by omega) (by omega)) ?_; omega) ?_
    refine asg rfl ?_
    refine ⟨by kernel_rfl, ?_⟩
    refine nx (sl 0 rfl (sl 1 rfl (sl 6 rfl (sl 7 rfl (sl 8 rfl sn))))) (el 112 rfl en) ?_
    refine tri_seq ?_
    refine tri_reg mixed hcx ?_ _ _
    refine mv rfl ?_
    refine mv rfl ?_
    refine mv rfl ?_
    refine mv rfl ?_
    refine cvt _ rfl cvU32U64 rfl ⟨rfl, by omega, by omega⟩ ?_
    refine qo ((nextR us m R / V : Nat) : Int) rfl rfl rfl ⟨(Int.natCast_ediv _ _).symm, by omega, by omega, by omega⟩ ?_
    refine cvm ((nextR us m R / V : Nat) : Int) rfl cvU64U32 (Int.emod_eq_of_lt (Int.natCast_nonneg _) (Int.ofNat_lt.2 hd)) ?_
    refine ixo rfl rfl rfl slLs ⟨(by omega : _ = (m : Int)), by omega⟩ ?_
    refine so rfl rfl rfl (.refl _) tyU32 ⟨rfl, by omega⟩ ?_
    refine ⟨by kernel_rfl, ?_⟩
    refine nx (sl 0 rfl (sl 1 rfl (sl 6 rfl (sl 7 rfl (sl 8 rfl sn))))) (el 112 rfl en) ?_
    refine tri_reg mixed hcx ?_ _ _
    refine mv rfl ?_
    refine mv rfl ?_
    refine cvt _ rfl cvU32U64 rfl ⟨rfl, by omega, by omega⟩ ?_
    refine re ((nextR us m R % V : Nat) : Int) rfl rfl ⟨(Int.natCast_emod _ _).symm, by omega, by omega⟩ ?_
    refine asg rfl ?_
    refine ⟨by kernel_rfl, ?_⟩
    refine pn_blk ?_
    refine nx (sl 0 rfl (sl 1 rfl (sl 6 rfl (sl 7 rfl (sl 8 rfl sn))))) (el 112 rfl en) ?_
    refine tri_reg mixed hcx ?_ _ _
    refine mv rfl ?_
    refine sb _ rfl rfl rfl ⟨rfl, by omega, by omega⟩ ?_
    refine asg rfl ?_
    refine ⟨by kernel_rfl, ?_⟩
    exact pn_back (m, nextR us m R % V, qs.set m ((nextR us m R / V : Nat) : Int)) (by first | omega | (dsimp only; omega)) ⟨by omega, dvI_put hI (by omega) hx hV0⟩ (sl 0 rfl (sl 1 rfl (sl 6 rfl (sl 7 rfl (sw 8 rfl (ci (by omega)) sn))))) (el 112 rfl en)
end Go.Proofs.YtekghdfbhbhigaaGreat.V
/- Contracts of package nat: shifts, division. -/
set_option linter.unusedVariables false
set_option linter.unusedSimpArgs false
set_option maxRecDepth 100000
namespace Go.Proofs.YtekghdfbhbhigaaGreat.V
open Go.RowKit Mt Nml
theorem same_val : ∀ {xs ys : List Int}, Lim xs → Lim ys → xs.length = ys.length → val xs = val ys → xs = ys
  | [], [], _, _, _, _ => rfl
  | [], _ :: _, _, _, h, _ => by simp at h
  | _ :: _, [], _, _, h, _ => by simp at h
  | x :: r, y :: s, h1, h2, h3, h4 => by
    have a1 := h1.at_ 0; have a2 := h2.at_ 0
    simp only [at_, List.getD_cons_zero] at a1 a2
    have l1 : Lim r := by simpa using h1.drop 1
    have l2 : Lim s := by simpa using h2.drop 1
    rw [val_cons, val_cons] at h4
    have e := same_val l1 l2 (by simpa using h3) (by omega)
    subst e
    rw [show x = y from by omega]
/-- Limbs, filled up with noughts. -/
def pad (V n : Nat) : List Int := dig V ++ List.replicate (n - (dig V).length) 0
theorem pad_length {V n : Nat} (h : lim V ≤ n) : (pad V n).length = n := by unfold lim at h; simp [pad]; omega
theorem pad_lim (V n : Nat) : Lim (pad V n) := (dig_lim V).append (Lim.noughts _)
theorem pad_val (V n : Nat) : val (pad V n) = V := by unfold pad; rw [val_append, val_noughts, dig_val]; omega
theorem pad_of {zs : List Int} {V : Nat} (hl : Lim zs) (hv : val zs = V) : zs = pad V zs.length := same_val hl (pad_lim _ _) (by rw [pad_length (lim_le (by rw [← hv]; exact val_lt hl))]) (by rw [pad_val, hv])
theorem pad_take (V n : Nat) : (pad V n).take (lim V) = dig V := by unfold pad lim; rw [List.take_left]
theorem tl_lim {xs : List Int} {V : Nat} (hl : Lim xs) (hv : val xs = V) : tl xs xs.length = lim V := by
  have := trim_dig hl hv
  have h := congrArg List.length this
  rw [List.length_take, Nat.min_eq_left (Mt.tl_le _ _)] at h
  exact h
theorem tl_pad {V n : Nat} (h : lim V ≤ n) : tl (pad V n) n = lim V := by
  have := tl_lim (pad_lim V n) (pad_val V n)
  rwa [pad_length h] at this
theorem nil_dig {N : Nat} (h : N = 0) : (T.c (.slice none 0 0)).le (T.l cU (dig N)) := by subst h; rw [dig_zero]; exact nil_l cU

theorem nat_trimV515 {xs : List Int} {n : Nat} (hs : n ≤ 4611686018427387904) (hn : n ≤ xs.length) : Fn Tryz.prog 174 [T.v 515 0 n] [(515, Ent.row cU 119 (xs))] [(515, Ent.row cU 119 (xs))] [] (T.v 515 0 (tl xs n)) := by
  refine fn_of Tryz.func174 rfl (by show 1 ≤ 21; decide) fun cx hcx => ?_
  refine tri_sub (sl 0 rfl sn) (el 515 rfl en) ?_
  refine tri_seq ?_
  refine tri_reg mixed hcx ?_ _ _
  refine asg rfl ?_
  refine ⟨by kernel_rfl, ?_⟩
  refine nx (sl 0 rfl sn) (el 515 rfl en) ?_
  refine tri_seq ?_
  refine tri_block ?_
  refine tri_loop (ι := Nat) (fun k => [(0, T.v 515 0 k)]) (fun k => [(515, some (Ent.row cU 119 (xs)))]) (fun k => k) (fun k => (k ≤ n) ∧ (tl xs k = tl xs n)) n ⟨Nat.le_refl _, rfl⟩ (sl 0 rfl sn) (el 515 rfl en) ?_
  rintro k ⟨hk, ht⟩
  refine tri_sub (sl 0 rfl sn) (el 515 rfl en) ?_
  refine tri_seq ?_
  refine tri_seq ?_
  rcases Nat.eq_zero_or_pos k with h0 | h0
  · subst h0
    refine tri_reg mixed hcx ?_ _ _
    refine mv rfl ?_
    refine lnv slLs rfl ?_
    refine cgt rfl rfl (decide_eq_false (by simp)) ?_
    refine mv rfl ?_
    refine j_off rfl rfl rfl rfl ?_
    refine j_off rfl rfl rfl rfl ?_
    refine j_off rfl rfl rfl rfl ?_
    refine j_off rfl rfl rfl rfl ?_
    refine j_off rfl rfl rfl rfl ?_
    refine j_off rfl rfl rfl rfl ?_
    refine j_off rfl rfl rfl rfl ?_
    refine pk rfl rfl ?_
    refine ⟨by kernel_rfl, ?_⟩
    refine nx (sl 0 rfl (sl 14 rfl sn)) (el 515 rfl en) ?_
    refine tri_false rfl rfl ?_
    refine tri_exit ?_
    repeat (first | refine pn_then ?_ | refine pn_oth (by decide) ?_)
    refine pn_ex ?_
    refine nx (sl 0 rfl sn) (el 515 rfl en) ?_
    refine tri_seq ?_
    refine tri_reg mixed hcx ?_ _ _
    refine mv rfl ?_
    refine asg rfl ?_
    refine ⟨by kernel_rfl, ?_⟩
    refine nx (sl 2 rfl sn) (el 515 rfl en) ?_
    refine tri_ret ?_
    repeat (first | refine pn_thenr ?_ | refine pn_blkr ?_)
    exact ret1 hcx rfl (rv_tmp rfl) (.of (by rw [← ht]; first | rfl | simp [tl, hc])) (el 515 rfl en)
  · obtain ⟨m, rfl⟩ : ∃ m, k = m + 1 := ⟨k - 1, by omega⟩
    refine tri_reg mixed hcx ?_ _ _
    refine mv rfl ?_
    refine lnv slLs rfl ?_
    refine cgt rfl rfl (decide_eq_true (by omega)) ?_
    refine mv rfl ?_
    refine mv rfl ?_ (hg := gd1)
    refine mv rfl ?_ (hg := gd1)
    refine lnv slLs rfl ?_ (hg := gd1)
    refine sb ((m : Int)) rfl rfl rfl (by omega) ?_ (hg := gd1)
    refine ixv rfl rfl slLs ⟨rfl, by omega⟩ ?_ (hg := gd1)
    refine lo m rfl rfl tyU32 ⟨(by show 0 + m = m * 1; omega), rfl, by omega⟩ ?_ (hg := gd1)
    refine ceq rfl rfl rfl ?_ (hg := gd1)
    refine pk rfl rfl ?_
    refine ⟨by kernel_rfl, ?_⟩
    refine nx (sl 0 rfl (sl 14 rfl sn)) (el 515 rfl en) ?_
    refine tri_if rfl (fun hc => ?_) (fun hc => ?_)
    · rw [getD_at] at hc
      refine tri_skip ?_
      refine nx (sl 0 rfl sn) (el 515 rfl en) ?_
      refine tri_block ?_
      refine tri_reg mixed hcx ?_ _ _
      refine mv rfl ?_
      refine mv rfl ?_
      refine lnv slLs rfl ?_
      refine sb ((m : Int)) rfl rfl rfl (by omega) ?_
      refine shv rfl slLs rfl ⟨rfl, by omega⟩ ?_
      refine asg rfl ?_
      refine ⟨by kernel_rfl, ?_⟩
      refine pn_blk ?_
      exact pn_back m (by first | omega | (dsimp only; omega)) ⟨by omega, by rw [← ht]; simp [tl, hc]⟩ (sl 0 rfl sn) (el 515 rfl en)
    · rw [getD_at] at hc
      refine tri_exit ?_
      repeat (first | refine pn_then ?_ | refine pn_oth (by decide) ?_)
      refine pn_ex ?_
      refine nx (sl 0 rfl sn) (el 515 rfl en) ?_
      refine tri_seq ?_
      refine tri_reg mixed hcx ?_ _ _
      refine mv rfl ?_
      refine asg rfl ?_
      refine ⟨by kernel_rfl, ?_⟩
      refine nx (sl 2 rfl sn) (el 515 rfl en) ?_
      refine tri_ret ?_
      repeat (first | refine pn_thenr ?_ | refine pn_blkr ?_)
      exact ret1 hcx rfl (rv_tmp rfl) (.of (by rw [← ht]; first | rfl | simp [tl, hc])) (el 515 rfl en)

theorem nat_shl {N n k : Nat} (hN : 0 < N) (hk : k ≤ 8796093022208) (hn : n ≤ 8796093022208) : Fn Tryz.prog 194 [T.L N k, T.c (.int .i64 (n : Int))] [] [(515, Ent.row cU 119 (pad (N * 2 ^ n) ((dig N).length + n / 32 + 1)))] [515] (T.v 515 0 (lim (N * 2 ^ n))) := by
  refine fn_of Tryz.func194 rfl (by show 2 ≤ 60; decide) fun cx hcx => ?_
  refine tri_sub (sl 0 rfl (sl 1 rfl sn)) en ?_
  refine tri_ex 0 rfl fun xs ⟨hl0, hv0, hb0⟩ => ?_
  have hM := lim_val hl0 hv0 hb0; have hp := lim_ps hN; unfold lim at hM hp
  have hr : n % 32 < 32 := by omega
  refine tri_seq ?_
  refine tri_reg mixed hcx ?_ _ _
  refine asg rfl ?_
  refine ⟨by kernel_rfl, ?_⟩
  refine nx (sl 0 rfl (sl 1 rfl sn)) en ?_
  refine tri_seq ?_
  refine tri_reg mixed hcx ?_ _ _
  refine mv rfl ?_
  refine ca rfl (h := nat_trim (by omega)) (hn := ?_)
  refine asg rfl ?_
  refine ⟨by kernel_rfl, ?_⟩
  refine nx (sl 0 rfl (sl 1 rfl sn)) en ?_
  refine tri_seq ?_
  refine tri_seq ?_
  refine tri_reg mixed hcx ?_ _ _
  refine mv rfl ?_
  refine ln slLs rfl ?_
  refine ceq rfl rfl (decide_eq_false (by omega)) ?_
  refine ⟨by kernel_rfl, ?_⟩
  refine nx (sl 0 rfl (sl 1 rfl (sl 14 rfl sn))) en ?_
  refine tri_false rfl rfl ?_
  refine tri_skip ?_
  refine nx (sl 0 rfl (sl 1 rfl sn)) en ?_
  refine tri_seq ?_
  refine tri_reg mixed hcx ?_ _ _
  refine mv rfl ?_
  refine qo (((n / 32 : Nat) : Int)) rfl rfl rfl (by omega) ?_
  refine mv rfl ?_
  refine re (((n % 32 : Nat) : Int)) rfl rfl (by omega) ?_
  refine cvt _ rfl cvIU rfl ⟨rfl, by omega, by omega⟩ ?_
  refine asg rfl ?_
  refine asg rfl ?_
  refine ⟨by kernel_rfl, ?_⟩
  refine nx (sl 0 rfl (sl 5 rfl (sl 6 rfl sn))) en ?_
  refine tri_seq ?_
  refine tri_reg mixed hcx ?_ _ _
  refine mv rfl ?_
  refine ln slLs rfl ?_
  refine mv rfl ?_
  refine ad ((((dig N).length + n / 32 : Nat) : Int)) rfl rfl rfl (by omega) ?_
  refine ad ((((dig N).length + n / 32 + 1 : Nat) : Int)) rfl rfl rfl (by omega) ?_
  refine mkz (c := cU) (n := (dig N).length + n / 32 + 1) 515 slLs rfl (by omega) (fun u => ⟨zvU32, zrU u⟩) (by decide) ?_
  refine asg rfl ?_
  refine ⟨by kernel_rfl, ?_⟩
  refine nx (sl 0 rfl (sl 5 rfl (sl 6 rfl (sl 7 rfl sn)))) (el 515 rfl en) ?_
  refine tri_seq ?_
  refine tri_seq ?_
  refine tri_reg mixed hcx ?_ _ _
  refine mv rfl ?_
  refine ln slLs rfl ?_
  refine mv rfl ?_
  refine ⟨by kernel_rfl, ?_⟩
  refine nx (sl 0 rfl (sl 5 rfl (sl 6 rfl (sl 7 rfl (sl 27 rfl (sl 28 rfl sn)))))) (el 515 rfl en) ?_
  refine tri_block ?_
  refine tri_loop (ι := Nat × List Int) (fun (k, zs) => [(0, T.l cU (dig N)), (5, T.c (.int .i64 ((n / 32 : Nat) : Int))), (6, T.c (.int .u64 ((n % 32 : Nat) : Int))), (7, T.o 515), (27, T.c (.int .i64 ((dig N).length : Int))), (28, T.c (.int .i64 (k : Int)))]) (fun (k, zs) => [(515, some (Ent.row cU 119 (zs)))]) (fun (k, zs) => (dig N).length - k) (fun (k, zs) => (k ≤ (dig N).length) ∧ (shlI (dig N) zs ((dig N).length + n / 32 + 1) (n / 32) (2 ^ (n % 32)) k)) (0, List.replicate ((dig N).length + n / 32 + 1) 0) ⟨Nat.zero_le _, shlI_start _ _ _ (pow2_pos _)⟩ (sl 0 rfl (sl 5 rfl (sl 6 rfl (sl 7 rfl (sl 27 rfl (sl 28 rfl sn)))))) (el 515 rfl en) ?_
  rintro ⟨k, zs⟩ ⟨hk, hI⟩
  refine tri_sub (sl 0 rfl (sl 5 rfl (sl 6 rfl (sl 7 rfl (sl 27 rfl (sl 28 rfl sn)))))) (el 515 rfl en) ?_
  refine tri_seq ?_
  refine tri_reg mixed hcx ?_ _ _
  refine clt rfl rfl rfl ?_
  refine ⟨by kernel_rfl, ?_⟩
  refine nx (sl 0 rfl (sl 5 rfl (sl 6 rfl (sl 7 rfl (sl 27 rfl (sl 28 rfl (sl 29 rfl sn))))))) (el 515 rfl en) ?_
  refine tri_seq ?_
  refine tri_if rfl (fun hc => ?_) (fun hc => ?_)
  · have bx := gd (dig_lim N) k; have bz := gd hI.lim (k + n / 32); have hlz := hI.1; have ht := hI.top; rw [← getD_at] at ht
    obtain ⟨l1, l2, l3, l4, l5⟩ := shl_limb hr bx.1 bx.2; have l6 := pow2_le hr
    refine tri_skip ?_
    refine nx (sl 0 rfl (sl 5 rfl (sl 6 rfl (sl 7 rfl (sl 27 rfl (sl 28 rfl sn)))))) (el 515 rfl en) ?_
    refine tri_seq ?_
    refine tri_block ?_
    refine tri_seq ?_
    refine tri_reg mixed hcx ?_ _ _
    refine mv rfl ?_
    refine asg rfl ?_
    refine ⟨by kernel_rfl, ?_⟩
    refine nx (sl 0 rfl (sl 5 rfl (sl 6 rfl (sl 7 rfl (sl 8 rfl (sl 27 rfl (sl 28 rfl sn))))))) (el 515 rfl en) ?_
    refine tri_seq ?_
    refine tri_reg mixed hcx ?_ _ _
    refine mv rfl ?_
    refine mv rfl ?_
    refine ix rfl rfl slLs ⟨rfl, by omega⟩ ?_
    refine lf rfl tyU32 ?_
    refine cvt _ rfl cvU32U64 rfl ⟨rfl, by omega, by omega⟩ ?_
    refine mv rfl ?_
    refine shL (s := n % 32) ((dig N).getD k cU.dflt * 2 ^ (n % 32)) rfl rfl rfl rfl ⟨rfl, l1, (by omega), (by show n % 32 ≤ 64; omega)⟩ ?_
    refine asg rfl ?_
    refine ⟨by kernel_rfl, ?_⟩
    refine nx (sl 0 rfl (sl 5 rfl (sl 6 rfl (sl 7 rfl (sl 8 rfl (sl 9 rfl (sl 27 rfl (sl 28 rfl sn)))))))) (el 515 rfl en) ?_
    refine tri_seq ?_
    refine tri_reg mixed hcx ?_ _ _
    refine mv rfl ?_
    refine mv rfl ?_
    refine mv rfl ?_
    refine ad (((k + n / 32 : Nat) : Int)) rfl rfl rfl (by omega) ?_
    refine ixo rfl rfl rfl slLs ⟨rfl, by omega⟩ ?_
    refine lo _ rfl rfl tyU32 ⟨rfl, rfl, by omega⟩ ?_
    refine mv rfl ?_
    refine cvm _ rfl cvU64U32 rfl ?_
    refine orr (zs.getD (k + n / 32) cU.dflt + (dig N).getD k cU.dflt * 2 ^ (n % 32) % 4294967296) rfl rfl (by rw [or_u32_swap bz.1 bz.2 (by omega) (by omega), or_u32 (n % 32) (by omega) (by omega) l3 bz.1 ht.2 bz.2, Int.add_comm]) ?_
    refine ixo rfl rfl rfl slLs ⟨rfl, by omega⟩ ?_
    refine so rfl rfl rfl (.refl _) tyU32 ⟨rfl, by omega⟩ ?_
    refine ⟨by kernel_rfl, ?_⟩
    refine nx (sl 0 rfl (sl 5 rfl (sl 6 rfl (sl 7 rfl (sl 8 rfl (sl 9 rfl (sl 27 rfl (sl 28 rfl sn)))))))) (el 515 rfl en) ?_
    have hl2 : (zs.set (k + n / 32) (zs.getD (k + n / 32) cU.dflt + (dig N).getD k cU.dflt * 2 ^ (n % 32) % 4294967296)).length = zs.length := List.length_set
    refine tri_reg mixed hcx ?_ _ _
    refine mv rfl ?_
    refine mv rfl ?_
    refine mv rfl ?_
    refine ad (((k + n / 32 : Nat) : Int)) rfl rfl rfl (by omega) ?_
    refine ad (((k + n / 32 + 1 : Nat) : Int)) rfl rfl rfl (by omega) ?_
    refine mv rfl ?_
    refine shR (s := 32) ((dig N).getD k cU.dflt * 2 ^ (n % 32) / 4294967296) rfl rfl rfl ⟨by omega, by omega, by decide⟩ ?_
    refine cvm ((dig N).getD k cU.dflt * 2 ^ (n % 32) / 4294967296) rfl cvU64U32 (by omega) ?_
    refine ixo rfl rfl rfl slLs ⟨rfl, by omega⟩ ?_
    refine so rfl rfl rfl (.refl _) tyU32 ⟨rfl, by omega⟩ ?_
    refine ⟨by kernel_rfl, ?_⟩
    refine pn_blk ?_
    refine nx (sl 0 rfl (sl 5 rfl (sl 6 rfl (sl 7 rfl (sl 27 rfl (sl 28 rfl sn)))))) (el 515 rfl en) ?_
    refine tri_reg mixed hcx ?_ _ _
    refine ad (((k + 1 : Nat) : Int)) rfl rfl rfl (by omega) ?_
    refine mv rfl ?_
    refine ⟨by kernel_rfl, ?_⟩
    exact pn_back (k + 1, (zs.set (k + n / 32) (zs.getD (k + n / 32) cU.dflt + (dig N).getD k cU.dflt * 2 ^ (n % 32) % 4294967296)).set (k + n / 32 + 1) ((dig N).getD k cU.dflt * 2 ^ (n % 32) / 4294967296)) (by first | omega | (dsimp only; omega)) ⟨by omega, shlI_step hI hr (by omega) (by omega) (dig_lim N)⟩ (sl 0 rfl (sl 5 rfl (sl 6 rfl (sl 7 rfl (sl 27 rfl (sl 28 rfl sn)))))) (el 515 rfl en)
  · refine tri_exit ?_
    repeat (first | refine pn_then ?_ | refine pn_oth (by decide) ?_)
    refine pn_ex ?_
    obtain rfl : k = (dig N).length := by omega
    have hv : val zs = ((N * 2 ^ n : Nat) : Int) := by rw [shlI_end hI, dig_val, B_pow, Nat.div_add_mod]
    have hz := pad_of hI.lim hv; rw [hI.1] at hz; subst hz; have hll : lim (N * 2 ^ n) ≤ (dig N).length + n / 32 + 1 := lim_le (by { have := val_lt hI.lim; rw [hv, hI.1] at this; exact this })
    refine nx (sl 7 rfl sn) (el 515 rfl en) ?_
    refine tri_seq ?_
    refine tri_ov 7 515 ((dig N).length + n / 32 + 1) rfl rfl ⟨(pad_length hll).symm, by omega⟩ ?_
    refine tri_reg mixed hcx ?_ _ _
    refine mv rfl ?_
    refine cas (hE := rfl) (e := 515) rfl (h := nat_trimV515 (by omega) (Nat.le_of_eq (pad_length hll).symm)) (hn := ?_)
    refine asg rfl ?_
    refine ⟨by kernel_rfl, ?_⟩
    refine nx (sl 4 rfl sn) (el 515 rfl en) ?_
    refine tri_ret ?_
    repeat (first | refine pn_thenr ?_ | refine pn_blkr ?_)
    exact ret1 hcx rfl (rv_tmp rfl) (.of (by rw [tl_pad hll])) (el 515 rfl en)

theorem nat_shr {N n k : Nat} (hk : k ≤ 8796093022208) (hn : n ≤ 8796093022208) : Fn Tryz.prog 195 [T.L N k, T.c (.int .i64 (n : Int))] [] [] [] (T.l cU (dig (N / 2 ^ n))) := by
  refine fn_of Tryz.func195 rfl (by show 2 ≤ 66; decide) fun cx hcx => ?_
  refine tri_sub (sl 0 rfl (sl 1 rfl sn)) en ?_
  refine tri_ex 0 rfl fun xs ⟨hl0, hv0, hb0⟩ => ?_
  have hM := lim_val hl0 hv0 hb0; unfold lim at hM
  have hr : n % 32 < 32 := by omega
  refine tri_seq ?_
  refine tri_reg mixed hcx ?_ _ _
  refine asg rfl ?_
  refine ⟨by kernel_rfl, ?_⟩
  refine nx (sl 0 rfl (sl 1 rfl sn)) en ?_
  refine tri_seq ?_
  refine tri_reg mixed hcx ?_ _ _
  refine mv rfl ?_
  refine ca rfl (h := nat_trim (by omega)) (hn := ?_)
  refine asg rfl ?_
  refine ⟨by kernel_rfl, ?_⟩
  refine nx (sl 0 rfl (sl 1 rfl sn)) en ?_
  refine tri_seq ?_
  refine tri_reg mixed hcx ?_ _ _
  refine mv rfl ?_
  refine qo (((n / 32 : Nat) : Int)) rfl rfl rfl (by omega) ?_
  refine mv rfl ?_
  refine re (((n % 32 : Nat) : Int)) rfl rfl (by omega) ?_
  refine cvt _ rfl cvIU rfl ⟨rfl, by omega, by omega⟩ ?_
  refine asg rfl ?_
  refine asg rfl ?_
  refine ⟨by kernel_rfl, ?_⟩
  refine nx (sl 0 rfl (sl 5 rfl (sl 6 rfl sn))) en ?_
  refine tri_seq ?_
  refine tri_seq ?_
  refine tri_reg mixed hcx ?_ _ _
  refine mv rfl ?_
  refine mv rfl ?_
  refine ln slLs rfl ?_
  refine cge rfl rfl rfl ?_
  refine ⟨by kernel_rfl, ?_⟩
  refine nx (sl 0 rfl (sl 5 rfl (sl 6 rfl (sl 20 rfl sn)))) en ?_
  refine tri_if rfl (fun hq => ?_) (fun hq => ?_)
  · refine tri_seq ?_
    refine tri_reg mixed hcx ?_ _ _
    refine asg rfl ?_
    refine ⟨by kernel_rfl, ?_⟩
    refine nx (sl 4 rfl sn) en ?_
    refine tri_ret ?_
    repeat (first | refine pn_thenr ?_ | refine pn_blkr ?_)
    exact ret1 hcx rfl (rv_tmp rfl) (nil_dig (by rw [← Nat.div_add_mod n 32]; exact shr_zero (by unfold lim; omega))) en
  · refine tri_skip ?_
    refine nx (sl 0 rfl (sl 5 rfl (sl 6 rfl sn))) en ?_
    refine tri_seq ?_
    refine tri_reg mixed hcx ?_ _ _
    refine mv rfl ?_
    refine ln slLs rfl ?_
    refine mv rfl ?_
    refine sb ((((dig N).length - n / 32 : Nat) : Int)) rfl rfl rfl (by omega) ?_
    refine mkz (c := cU) (n := (dig N).length - n / 32) 514 slLs rfl (by omega) (fun u => ⟨zvU32, zrU u⟩) (by decide) ?_
    refine asg rfl ?_
    refine ⟨by kernel_rfl, ?_⟩
    refine nx (sl 0 rfl (sl 5 rfl (sl 6 rfl (sl 7 rfl sn)))) (el 514 rfl en) ?_
    refine tri_seq ?_
    refine tri_seq ?_
    refine tri_reg mixed hcx ?_ _ _
    refine mv rfl ?_
    refine lno slLs rfl rfl ?_
    refine mv rfl ?_
    refine ⟨by kernel_rfl, ?_⟩
    refine nx (sl 0 rfl (sl 5 rfl (sl 6 rfl (sl 7 rfl (sl 27 rfl (sl 28 rfl sn)))))) (el 514 rfl en) ?_
    refine tri_block ?_
    refine tri_loop (ι := Nat × List Int) (fun (k, zs) => [(0, T.l cU (dig N)), (5, T.c (.int .i64 ((n / 32 : Nat) : Int))), (6, T.c (.int .u64 ((n % 32 : Nat) : Int))), (7, T.o 514), (27, T.c (.int .i64 (((dig N).length - n / 32 : Nat) : Int))), (28, T.c (.int .i64 (k : Int)))]) (fun (k, zs) => [(514, some (Ent.row cU 119 (zs)))]) (fun (k, zs) => (dig N).length - n / 32 - k) (fun (k, zs) => (k ≤ (dig N).length - n / 32) ∧ (shrI (dig N) zs ((dig N).length - n / 32) (n / 32) (n % 32) k)) (0, List.replicate ((dig N).length - n / 32) 0) ⟨Nat.zero_le _, shrI_start _ _ _ _⟩ (sl 0 rfl (sl 5 rfl (sl 6 rfl (sl 7 rfl (sw 27 rfl (ci (by rw [List.length_replicate])) (sl 28 rfl sn)))))) (el 514 rfl en) ?_
    rintro ⟨k, zs⟩ ⟨hk, hI⟩
    refine tri_sub (sl 0 rfl (sl 5 rfl (sl 6 rfl (sl 7 rfl (sl 27 rfl (sl 28 rfl sn)))))) (el 514 rfl en) ?_
    refine tri_seq ?_
    refine tri_reg mixed hcx ?_ _ _
    refine clt rfl rfl rfl ?_
    refine ⟨by kernel_rfl, ?_⟩
    refine nx (sl 0 rfl (sl 5 rfl (sl 6 rfl (sl 7 rfl (sl 27 rfl (sl 28 rfl (sl 29 rfl sn))))))) (el 514 rfl en) ?_
    refine tri_seq ?_
    refine tri_if rfl (fun hc => ?_) (fun hc => ?_)
    · have hlz := hI.1; have bx := gd (dig_lim N) (k + n / 32); have bY := gd (dig_lim N) (k + n / 32 + 1); have hpp := pow2_pos (n % 32)
      refine tri_skip ?_
      refine nx (sl 0 rfl (sl 5 rfl (sl 6 rfl (sl 7 rfl (sl 27 rfl (sl 28 rfl sn)))))) (el 514 rfl en) ?_
      refine tri_seq ?_
      refine tri_block ?_
      refine tri_seq ?_
      refine tri_reg mixed hcx ?_ _ _
      refine mv rfl ?_
      refine asg rfl ?_
      refine ⟨by kernel_rfl, ?_⟩
      refine nx (sl 0 rfl (sl 5 rfl (sl 6 rfl (sl 7 rfl (sl 8 rfl (sl 27 rfl (sl 28 rfl sn))))))) (el 514 rfl en) ?_
      refine tri_seq ?_
      refine tri_reg mixed hcx ?_ _ _
      refine mv rfl ?_
      refine mv rfl ?_
      refine mv rfl ?_
      refine ad (((k + n / 32 : Nat) : Int)) rfl rfl rfl (by omega) ?_
      refine ix rfl rfl slLs ⟨rfl, by omega⟩ ?_
      refine lf rfl tyU32 ?_
      refine cvt _ rfl cvU32U64 rfl ⟨rfl, by omega, by omega⟩ ?_
      refine asg rfl ?_
      refine ⟨by kernel_rfl, ?_⟩
      refine nx (sl 0 rfl (sl 5 rfl (sl 6 rfl (sl 7 rfl (sl 8 rfl (sl 9 rfl (sl 27 rfl (sl 28 rfl sn)))))))) (el 514 rfl en) ?_
      refine tri_join (ι := Unit) (fun _ => [(0, T.l cU (dig N)), (5, T.c (.int .i64 ((n / 32 : Nat) : Int))), (6, T.c (.int .u64 ((n % 32 : Nat) : Int))), (7, T.o 514), (8, T.c (.int .i64 (k : Int))), (9, T.c (.int .u64 ((dig N).getD (k + n / 32) cU.dflt + (dig N).getD (k + n / 32 + 1) cU.dflt * 4294967296))), (27, T.c (.int .i64 (((dig N).length - n / 32 : Nat) : Int))), (28, T.c (.int .i64 (k : Int)))]) (fun _ => [(514, some (Ent.row cU 119 (zs)))]) (fun _ => True) ?_ ?_
      · refine tri_seq ?_
        refine tri_reg mixed hcx ?_ _ _
        refine mv rfl ?_
        refine mv rfl ?_
        refine ad (((k + n / 32 : Nat) : Int)) rfl rfl rfl (by omega) ?_
        refine ad (((k + n / 32 + 1 : Nat) : Int)) rfl rfl rfl (by omega) ?_
        refine mv rfl ?_
        refine ln slLs rfl ?_
        refine clt rfl rfl rfl ?_
        refine ⟨by kernel_rfl, ?_⟩
        refine nx (sl 0 rfl (sl 5 rfl (sl 6 rfl (sl 7 rfl (sl 8 rfl (sl 9 rfl (sl 27 rfl (sl 28 rfl (sl 44 rfl sn))))))))) (el 514 rfl en) ?_
        refine tri_if rfl (fun hd => ?_) (fun hd => ?_)
        · refine tri_reg mixed hcx ?_ _ _
          refine mv rfl ?_
          refine mv rfl ?_
          refine mv rfl ?_
          refine mv rfl ?_
          refine ad (((k + n / 32 : Nat) : Int)) rfl rfl rfl (by omega) ?_
          refine ad (((k + n / 32 + 1 : Nat) : Int)) rfl rfl rfl (by omega) ?_
          refine ix rfl rfl slLs ⟨rfl, by omega⟩ ?_
          refine lf rfl tyU32 ?_
          refine cvt _ rfl cvU32U64 rfl ⟨rfl, by omega, by omega⟩ ?_
          refine shL (s := 32) ((dig N).getD (k + n / 32 + 1) cU.dflt * 4294967296) rfl rfl rfl rfl ⟨by omega, by omega, by omega, by decide⟩ ?_
          refine orr (((dig N).getD (k + n / 32) cU.dflt + (dig N).getD (k + n / 32 + 1) cU.dflt * 4294967296)) rfl rfl (by rw [or_u64_swap bx.1 (by omega) (by omega) (by omega), or_u64 32 (by omega) (by omega) (by omega) bx.1 (by omega) (by omega), Int.add_comm]) ?_
          refine asg rfl ?_
          refine ⟨by kernel_rfl, ?_⟩
          first | exact pn_join () trivial (sl 0 rfl (sl 5 rfl (sl 6 rfl (sl 7 rfl (sl 8 rfl (sl 9 rfl (sl 27 rfl (sl 28 rfl sn)))))))) (el 514 rfl en) | exact pn_join () trivial (sl 0 rfl (sl 5 rfl (sl 6 rfl (sl 7 rfl (sl 8 rfl (sw 9 rfl (ci (by rw [show (dig N).getD (k + n / 32 + 1) cU.dflt = 0 from at_ge (by omega)]; omega)) (sl 27 rfl (sl 28 rfl sn)))))))) (el 514 rfl en)
        · refine tri_skip ?_
          first | exact pn_join () trivial (sl 0 rfl (sl 5 rfl (sl 6 rfl (sl 7 rfl (sl 8 rfl (sl 9 rfl (sl 27 rfl (sl 28 rfl sn)))))))) (el 514 rfl en) | exact pn_join () trivial (sl 0 rfl (sl 5 rfl (sl 6 rfl (sl 7 rfl (sl 8 rfl (sw 9 rfl (ci (by rw [show (dig N).getD (k + n / 32 + 1) cU.dflt = 0 from at_ge (by omega)]; omega)) (sl 27 rfl (sl 28 rfl sn)))))))) (el 514 rfl en)
      · rintro _ _
        refine tri_sub (sl 0 rfl (sl 5 rfl (sl 6 rfl (sl 7 rfl (sl 8 rfl (sl 9 rfl (sl 27 rfl (sl 28 rfl sn)))))))) (el 514 rfl en) ?_
        refine tri_reg mixed hcx ?_ _ _
        refine mv rfl ?_
        refine mv rfl ?_
        refine mv rfl ?_
        refine mv rfl ?_
        refine shR (s := n % 32) (((dig N).getD (k + n / 32) cU.dflt + (dig N).getD (k + n / 32 + 1) cU.dflt * 4294967296) / 2 ^ (n % 32)) rfl rfl rfl ⟨rfl, by omega, (by show n % 32 ≤ 64; omega)⟩ ?_
        refine cvm _ rfl cvU64U32 rfl ?_
        refine ixo rfl rfl rfl slLs ⟨rfl, by omega⟩ ?_
        refine so rfl rfl rfl (.refl _) tyU32 ⟨rfl, by omega⟩ ?_
        refine ⟨by kernel_rfl, ?_⟩
        refine pn_blk ?_
        refine nx (sl 0 rfl (sl 5 rfl (sl 6 rfl (sl 7 rfl (sl 27 rfl (sl 28 rfl sn)))))) (el 514 rfl en) ?_
        refine tri_reg mixed hcx ?_ _ _
        refine ad (((k + 1 : Nat) : Int)) rfl rfl rfl (by omega) ?_
        refine mv rfl ?_
        refine ⟨by kernel_rfl, ?_⟩
        exact pn_back (k + 1, zs.set k (((dig N).getD (k + n / 32) cU.dflt + (dig N).getD (k + n / 32 + 1) cU.dflt * 4294967296) / 2 ^ (n % 32) % 4294967296)) (by first | omega | (dsimp only; omega)) ⟨by omega, shrI_step hI hr (by omega) (by omega) (dig_lim N)⟩ (sl 0 rfl (sl 5 rfl (sl 6 rfl (sl 7 rfl (sl 27 rfl (sl 28 rfl sn)))))) (el 514 rfl en)
    · refine tri_exit ?_
      repeat (first | refine pn_then ?_ | refine pn_oth (by decide) ?_)
      refine pn_ex ?_
      obtain rfl : k = (dig N).length - n / 32 := by omega
      have hE1 : val zs = ((N / 2 ^ n : Nat) : Int) := by rw [shrI_end hI (by omega) (dig_lim N), dig_val, Nat.div_add_mod]; simp
      have hE2 := hI.lim; have hE3 : zs.length ≤ (dig N).length - n / 32 := Nat.le_of_eq hI.1
      refine nx (sl 7 rfl sn) (el 514 rfl en) ?_
      refine tri_seq ?_
      refine tri_fz 514 rfl ?_
      refine tri_rd 7 514 rfl rfl ?_
      refine tri_reg mixed hcx ?_ _ _
      refine mv rfl ?_
      refine ca rfl (h := nat_trim (by omega)) (hn := ?_)
      refine asg rfl ?_
      refine ⟨by kernel_rfl, ?_⟩
      refine nx (sl 4 rfl sn) (el 514 rfl en) ?_
      refine tri_ret ?_
      repeat (first | refine pn_thenr ?_ | refine pn_blkr ?_)
      exact ret1 hcx rfl (rv_tmp rfl) (.refl _) en

theorem min_mnI (x y : Int) : min x y = mnI x y := by unfold mnI; split <;> omega
theorem part_getD {pre us post : List Int} {i : Nat} {d : Int} (h : i < us.length) : (pre ++ us ++ post).getD (pre.length + i) d = us.getD i d := by
  rw [List.getD_eq_getElem?_getD, List.append_assoc, List.getElem?_append_right (by omega), Nat.add_sub_cancel_left, List.getElem?_append_left h, List.getD_eq_getElem?_getD]
theorem part_set {pre us post : List Int} {i : Nat} {x : Int} (h : i < us.length) : (pre ++ us ++ post).set (pre.length + i) x = pre ++ us.set i x ++ post := by
  rw [List.append_assoc, List.set_append_right _ _ (by omega), Nat.add_sub_cancel_left, List.set_append_left _ _ h, List.append_assoc]
theorem part_len (pre us post : List Int) : (pre ++ us ++ post).length = pre.length + us.length + post.length := by simp [Nat.add_assoc]

theorem nat_digit {pre us post vs : List Int} {U V m : Nat} (hus : Lim us) (hul : us.length = m + 2) (hvU : val us = U) (hlv : Lim vs) (hvl : vs.length = m + 1) (hvV : val vs = V) (htop : 0 < at_ vs m) (hV : 0 < V) (hlt : U < 4294967296 * V) (hm : pre.length + m ≤ 4611686018427387904) : Fn Tryz.prog 199 [T.v 1114 pre.length (m + 2), T.l cU vs] [(1114, Ent.row cU 119 (pre ++ us ++ post))] [(1114, Ent.row cU 119 (pre ++ pad (U % V) (m + 2) ++ post))] [] (T.c (.int .u32 ((U / V : Nat) : Int))) := by
  refine fn_of Tryz.func199 rfl (by show 2 ≤ 117; decide) fun cx hcx => ?_
  refine tri_sub (sl 0 rfl (sl 1 rfl sn)) (el 1114 rfl en) ?_
  have bu1 := gd hus (m + 1); have bu0 := gd hus m; have bv := gd hlv m; have hRl := part_len pre us post; rw [← getD_at] at htop
  refine tri_seq ?_
  refine tri_reg mixed hcx ?_ _ _
  refine asg rfl ?_
  refine ⟨by kernel_rfl, ?_⟩
  refine nx (sl 0 rfl (sl 1 rfl sn)) (el 1114 rfl en) ?_
  refine tri_seq ?_
  refine tri_reg mixed hcx ?_ _ _
  refine mv rfl ?_
  refine ln slLs rfl ?_
  refine asg rfl ?_
  refine ⟨by kernel_rfl, ?_⟩
  refine nx (sl 0 rfl (sl 1 rfl (sl 5 rfl sn))) (el 1114 rfl en) ?_
  refine tri_seq ?_
  refine tri_reg mixed hcx ?_ _ _
  refine mv rfl ?_
  refine mv rfl ?_
  refine ixv rfl rfl slLs ⟨rfl, by omega⟩ ?_
  refine lo (pre.length + (m + 1)) rfl rfl tyU32 ⟨(Nat.mul_one _).symm, by omega, by omega⟩ ?_
  refine cvt (us.getD (m + 1) cU.dflt) rfl cvU32U64 rfl ⟨part_getD (by omega), by omega, by omega⟩ ?_
  refine shL (s := 32) (us.getD (m + 1) cU.dflt * 4294967296) rfl rfl rfl rfl ⟨by omega, by omega, by omega, by decide⟩ ?_
  refine mv rfl ?_
  refine mv rfl ?_
  refine sb ((m : Int)) rfl rfl rfl (by omega) ?_
  refine ixv rfl rfl slLs ⟨rfl, by omega⟩ ?_
  refine lo (pre.length + m) rfl rfl tyU32 ⟨(Nat.mul_one _).symm, by omega, by omega⟩ ?_
  refine cvt (us.getD m cU.dflt) rfl cvU32U64 rfl ⟨part_getD (by omega), by omega, by omega⟩ ?_
  refine orr ((us.getD (m + 1) cU.dflt * 4294967296 + us.getD m cU.dflt)) rfl rfl (or_u64 32 (by omega) (by omega) (by omega) bu0.1 (by omega) (by omega)) ?_
  refine asg rfl ?_
  refine ⟨by kernel_rfl, ?_⟩
  refine nx (sl 0 rfl (sl 1 rfl (sl 5 rfl (sl 6 rfl sn)))) (el 1114 rfl en) ?_
  refine tri_seq ?_
  refine tri_reg mixed hcx ?_ _ _
  refine mv rfl ?_
  refine mv rfl ?_
  refine mv rfl ?_
  refine sb ((m : Int)) rfl rfl rfl (by omega) ?_
  refine ix rfl rfl slLs ⟨rfl, by omega⟩ ?_
  refine lf rfl tyU32 ?_
  refine cvt _ rfl cvU32U64 rfl ⟨rfl, by omega, by omega⟩ ?_
  refine qo _ rfl rfl rfl ⟨rfl, by omega, by omega, by omega⟩ ?_
  refine mnb (mnI ((us.getD (m + 1) cU.dflt * 4294967296 + us.getD m cU.dflt) / vs.getD m cU.dflt) 4294967295) rfl rfl (min_mnI _ _) ?_
  refine asg rfl ?_
  refine ⟨by kernel_rfl, ?_⟩
  refine nx (sl 0 rfl (sl 1 rfl (sl 5 rfl (sl 7 rfl sn)))) (el 1114 rfl en) ?_
  refine tri_seq ?_
  obtain ⟨q, hq⟩ : ∃ q, q = mnI ((us.getD (m + 1) cU.dflt * 4294967296 + us.getD m cU.dflt) / vs.getD m cU.dflt) 4294967295 := ⟨_, rfl⟩
  rw [← hq]
  have hg := guess_ok hus hlv hul hvl (by omega) htop q hq; have hq0 : 0 ≤ q ∧ q < 4294967296 := ⟨hg.1, hg.2.1⟩
  refine tri_reg mixed hcx ?_ _ _
  refine asg rfl ?_
  refine asg rfl ?_
  refine ⟨by kernel_rfl, ?_⟩
  refine nx (sl 0 rfl (sl 1 rfl (sl 5 rfl (sl 7 rfl (sl 8 rfl (sl 9 rfl sn)))))) (el 1114 rfl en) ?_
  refine tri_seq ?_
  refine tri_seq ?_
  refine tri_reg mixed hcx ?_ _ _
  refine mv rfl ?_
  refine ad (((m + 2 : Nat) : Int)) rfl rfl rfl (by omega) ?_
  refine mv rfl ?_
  refine ⟨by kernel_rfl, ?_⟩
  refine nx (sl 0 rfl (sl 1 rfl (sl 5 rfl (sl 7 rfl (sl 8 rfl (sl 9 rfl (sl 40 rfl (sl 41 rfl sn)))))))) (el 1114 rfl en) ?_
  refine tri_block ?_
  refine tri_loop (ι := Nat × Int × Int × List Int) (fun (i, cy, bw, ws) => [(0, T.v 1114 pre.length (m + 2)), (1, T.l cU vs), (5, T.c (.int .i64 (vs.length : Int))), (7, T.c (.int .u64 q)), (8, T.c (.int .u64 cy)), (9, T.c (.int .u64 bw)), (40, T.c (.int .i64 ((m + 2 : Nat) : Int))), (41, T.c (.int .i64 (i : Int)))]) (fun (i, cy, bw, ws) => [(1114, some (Ent.row cU 119 (pre ++ ws ++ post)))]) (fun (i, cy, bw, ws) => m + 2 - i) (fun (i, cy, bw, ws) => (i ≤ m + 2) ∧ (subI us vs ws q (m + 2) i cy bw) ∧ (m + 2 ≤ i → cy = 0)) (0, 0, 0, us) ⟨Nat.zero_le _, subI_start hul hus, fun h => rfl⟩ (sl 0 rfl (sl 1 rfl (sl 5 rfl (sl 7 rfl (sl 8 rfl (sl 9 rfl (sl 40 rfl (sl 41 rfl sn)))))))) (el 1114 rfl en) ?_
  rintro ⟨i, cy, bw, ws⟩ ⟨hi, hI, hz⟩
  refine tri_sub (sl 0 rfl (sl 1 rfl (sl 5 rfl (sl 7 rfl (sl 8 rfl (sl 9 rfl (sl 40 rfl (sl 41 rfl sn)))))))) (el 1114 rfl en) ?_
  refine tri_seq ?_
  refine tri_reg mixed hcx ?_ _ _
  refine clt rfl rfl rfl ?_
  refine ⟨by kernel_rfl, ?_⟩
  refine nx (sl 0 rfl (sl 1 rfl (sl 5 rfl (sl 7 rfl (sl 8 rfl (sl 9 rfl (sl 40 rfl (sl 41 rfl (sl 42 rfl sn))))))))) (el 1114 rfl en) ?_
  refine tri_seq ?_
  refine tri_if rfl (fun hc => ?_) (fun hc => ?_)
  · have hbb := hI.bw; have hbc := hI.cy; have hlz := hI.len; have hRw := part_len pre ws post; have bx := gd hus i; have bY := gd hlv i; have hmb := mul_bound hq0.1 hq0.2 bY.1 bY.2 hbc.1 hbc.2 (Int.le_refl 0) (show (0 : Int) < 4294967296 by decide)
    refine tri_skip ?_
    refine nx (sl 0 rfl (sl 1 rfl (sl 5 rfl (sl 7 rfl (sl 8 rfl (sl 9 rfl (sl 40 rfl (sl 41 rfl sn)))))))) (el 1114 rfl en) ?_
    refine tri_seq ?_
    refine tri_block ?_
    refine tri_seq ?_
    refine tri_reg mixed hcx ?_ _ _
    refine mv rfl ?_
    refine asg rfl ?_
    refine ⟨by kernel_rfl, ?_⟩
    refine nx (sl 0 rfl (sl 1 rfl (sl 5 rfl (sl 7 rfl (sl 8 rfl (sl 9 rfl (sl 10 rfl (sl 40 rfl (sl 41 rfl sn))))))))) (el 1114 rfl en) ?_
    refine tri_seq ?_
    refine tri_reg mixed hcx ?_ _ _
    refine mv rfl ?_
    refine asg rfl ?_
    refine ⟨by kernel_rfl, ?_⟩
    refine nx (sl 0 rfl (sl 1 rfl (sl 5 rfl (sl 7 rfl (sl 9 rfl (sl 10 rfl (sl 11 rfl (sl 40 rfl (sl 41 rfl sn))))))))) (el 1114 rfl en) ?_
    refine tri_join (ι := Int × Int) (fun (p, y) => [(0, T.v 1114 pre.length (m + 2)), (1, T.l cU vs), (5, T.c (.int .i64 (vs.length : Int))), (7, T.c (.int .u64 q)), (9, T.c (.int .u64 bw)), (10, T.c (.int .i64 (i : Int))), (11, T.c (.int .u64 p)), (40, T.c (.int .i64 ((m + 2 : Nat) : Int))), (41, T.c (.int .i64 (i : Int)))]) (fun (p, y) => [(1114, some (Ent.row cU 119 (pre ++ ws ++ post)))]) (fun (p, y) => (p = cy + q * y) ∧ (0 ≤ y ∧ y < 4294967296) ∧ (val (vs.take (i + 1)) = val (vs.take i) + B i * y) ∧ (vs.length ≤ i → y = 0)) ?_ ?_
    · refine tri_seq ?_
      refine tri_reg mixed hcx ?_ _ _
      refine mv rfl ?_
      refine mv rfl ?_
      refine clt rfl rfl rfl ?_
      refine ⟨by kernel_rfl, ?_⟩
      refine nx (sl 0 rfl (sl 1 rfl (sl 5 rfl (sl 7 rfl (sl 9 rfl (sl 10 rfl (sl 11 rfl (sl 40 rfl (sl 41 rfl (sl 47 rfl sn)))))))))) (el 1114 rfl en) ?_
      refine tri_if rfl (fun hd => ?_) (fun hd => ?_)
      · refine tri_reg mixed hcx ?_ _ _
        refine mv rfl ?_
        refine mv rfl ?_
        refine mv rfl ?_
        refine mv rfl ?_
        refine ix rfl rfl slLs ⟨rfl, by omega⟩ ?_
        refine lf rfl tyU32 ?_
        refine cvt _ rfl cvU32U64 rfl ⟨rfl, by omega, by omega⟩ ?_
        refine ml _ rfl rfl rfl ⟨rfl, by omega, by omega⟩ ?_
        refine ad _ rfl rfl rfl ⟨rfl, by omega, by omega⟩ ?_
        refine asg rfl ?_
        refine ⟨by kernel_rfl, ?_⟩
        first | exact pn_join (cy + q * vs.getD i cU.dflt, vs.getD i cU.dflt) ⟨rfl, bY, val_take_succ (by omega), fun h => by omega⟩ (sl 0 rfl (sl 1 rfl (sl 5 rfl (sl 7 rfl (sl 9 rfl (sl 10 rfl (sl 11 rfl (sl 40 rfl (sl 41 rfl sn))))))))) (el 1114 rfl en) | exact pn_join (cy, 0) ⟨by show cy = cy + q * 0; omega, by omega, by rw [List.take_of_length_le (by omega), List.take_of_length_le (by omega)]; omega, fun h => rfl⟩ (sl 0 rfl (sl 1 rfl (sl 5 rfl (sl 7 rfl (sl 9 rfl (sl 10 rfl (sl 11 rfl (sl 40 rfl (sl 41 rfl sn))))))))) (el 1114 rfl en)
      · refine tri_skip ?_
        first | exact pn_join (cy + q * vs.getD i cU.dflt, vs.getD i cU.dflt) ⟨rfl, bY, val_take_succ (by omega), fun h => by omega⟩ (sl 0 rfl (sl 1 rfl (sl 5 rfl (sl 7 rfl (sl 9 rfl (sl 10 rfl (sl 11 rfl (sl 40 rfl (sl 41 rfl sn))))))))) (el 1114 rfl en) | exact pn_join (cy, 0) ⟨by show cy = cy + q * 0; omega, by omega, by rw [List.take_of_length_le (by omega), List.take_of_length_le (by omega)]; omega, fun h => rfl⟩ (sl 0 rfl (sl 1 rfl (sl 5 rfl (sl 7 rfl (sl 9 rfl (sl 10 rfl (sl 11 rfl (sl 40 rfl (sl 41 rfl sn))))))))) (el 1114 rfl en)
    · rintro ⟨p, y⟩ ⟨hp, hy0, hyy, hy2⟩
      refine tri_sub (sl 0 rfl (sl 1 rfl (sl 5 rfl (sl 7 rfl (sl 9 rfl (sl 10 rfl (sl 11 rfl (sl 40 rfl (sl 41 rfl sn))))))))) (el 1114 rfl en) ?_
      have hmp := mul_bound hq0.1 hq0.2 hy0.1 hy0.2 hbc.1 hbc.2 (Int.le_refl 0) (show (0 : Int) < 4294967296 by decide)
      refine tri_seq ?_
      refine tri_reg mixed hcx ?_ _ _
      refine mv rfl ?_
      refine shR (s := 32) (p / 4294967296) rfl rfl rfl ⟨by omega, by omega, by decide⟩ ?_
      refine asg rfl ?_
      refine ⟨by kernel_rfl, ?_⟩
      refine nx (sl 0 rfl (sl 1 rfl (sl 5 rfl (sl 7 rfl (sl 8 rfl (sl 9 rfl (sl 10 rfl (sl 11 rfl (sl 40 rfl (sl 41 rfl sn)))))))))) (el 1114 rfl en) ?_
      refine tri_seq ?_
      refine tri_reg mixed hcx ?_ _ _
      refine mv rfl ?_
      refine mv rfl ?_
      refine ixv rfl rfl slLs ⟨rfl, by omega⟩ ?_
      refine lo (pre.length + i) rfl rfl tyU32 ⟨(Nat.mul_one _).symm, by omega, by omega⟩ ?_
      refine cvt (us.getD i cU.dflt) rfl cvU32U64 rfl ⟨(part_getD (by omega)).trans hI.at_, by omega, by omega⟩ ?_
      refine mv rfl ?_
      refine cvm _ rfl cvU64U32 rfl ?_
      refine cvt _ rfl cvU32U64 rfl ⟨rfl, by omega, by omega⟩ ?_
      refine sbm _ rfl rfl ⟨rfl, rfl⟩ rfl ?_
      refine mv rfl ?_
      refine sbm _ rfl rfl ⟨rfl, rfl⟩ rfl ?_
      refine asg rfl ?_
      refine ⟨by kernel_rfl, ?_⟩
      refine nx (sl 0 rfl (sl 1 rfl (sl 5 rfl (sl 7 rfl (sl 8 rfl (sl 10 rfl (sl 12 rfl (sl 40 rfl (sl 41 rfl sn))))))))) (el 1114 rfl en) ?_
      refine tri_seq ?_
      refine tri_reg mixed hcx ?_ _ _
      refine mv rfl ?_
      refine mv rfl ?_
      refine mv rfl ?_
      refine cvm _ rfl cvU64U32 rfl ?_
      refine ixv rfl rfl slLs ⟨rfl, by omega⟩ ?_
      refine so rfl rfl rfl (.refl _) tyU32 (i := pre.length + i) ⟨(Nat.mul_one _).symm, by omega⟩ ?_
      refine ⟨by kernel_rfl, ?_⟩
      refine nx (sl 0 rfl (sl 1 rfl (sl 5 rfl (sl 7 rfl (sl 8 rfl (sl 12 rfl (sl 40 rfl (sl 41 rfl sn)))))))) (el 1114 rfl en) ?_
      refine tri_reg mixed hcx ?_ _ _
      refine mv rfl ?_
      refine shR (s := 63) (((us.getD i cU.dflt - p % 4294967296) % 18446744073709551616 - bw) % 18446744073709551616 / 9223372036854775808) rfl rfl rfl ⟨by omega, by omega, by decide⟩ ?_
      refine asg rfl ?_
      refine ⟨by kernel_rfl, ?_⟩
      refine pn_blk ?_
      refine nx (sl 0 rfl (sl 1 rfl (sl 5 rfl (sl 7 rfl (sl 8 rfl (sl 9 rfl (sl 40 rfl (sl 41 rfl sn)))))))) (el 1114 rfl en) ?_
      refine tri_reg mixed hcx ?_ _ _
      refine ad (((i + 1 : Nat) : Int)) rfl rfl rfl (by omega) ?_
      refine mv rfl ?_
      refine ⟨by kernel_rfl, ?_⟩
      exact pn_back (i + 1, p / 4294967296, ((us.getD i cU.dflt - p % 4294967296) % 18446744073709551616 - bw) % 18446744073709551616 / 9223372036854775808, ws.set i (((us.getD i cU.dflt - p % 4294967296) % 18446744073709551616 - bw) % 18446744073709551616 % 4294967296)) (by first | omega | (dsimp only; omega)) ⟨by omega, subI_step hI (by omega) hul hq0.1 hq0.2 hy0.1 hy0.2 hyy _ hp _ (by rw [← getD_at]; omega), fun h => by have := hy2 (by omega); subst this; rw [Int.mul_zero] at hp; omega⟩ (sl 0 rfl (sl 1 rfl (sl 5 rfl (sl 7 rfl (sl 8 rfl (sl 9 rfl (sl 40 rfl (sl 41 rfl sn)))))))) (ew 1114 rfl (.of (by rw [part_set (by omega)])) en)
  · refine tri_exit ?_
    repeat (first | refine pn_then ?_ | refine pn_oth (by decide) ?_)
    refine pn_ex ?_
    obtain rfl : i = m + 2 := by omega
    have hD : digI ws (U : Int) (V : Int) (m + 2) q bw := ⟨hI.len, hI.lim, hI.bw, hq0, by rw [← hvU, ← hvV]; exact hg.2.2, by rw [← hvU, ← hvV]; exact subI_end hI hul (by omega) (hz (Nat.le_refl _))⟩
    clear hI hz hi hg hq hq0
    refine nx (sl 0 rfl (sl 1 rfl (sl 5 rfl (sl 7 rfl (sl 9 rfl sn))))) (el 1114 rfl en) ?_
    refine tri_seq ?_
    refine tri_block ?_
    refine tri_loop (ι := Int × Int × List Int) (fun (q, bw, us) => [(0, T.v 1114 pre.length (m + 2)), (1, T.l cU vs), (5, T.c (.int .i64 (vs.length : Int))), (7, T.c (.int .u64 q)), (9, T.c (.int .u64 bw))]) (fun (q, bw, us) => [(1114, some (Ent.row cU 119 (pre ++ us ++ post)))]) (fun (q, bw, us) => q.toNat) (fun (q, bw, us) => (digI us (U : Int) (V : Int) (m + 2) q bw)) (q, bw, ws) hD (sl 0 rfl (sl 1 rfl (sl 5 rfl (sl 7 rfl (sl 9 rfl sn))))) (el 1114 rfl en) ?_
    rintro ⟨q, bw, us⟩ hD
    refine tri_sub (sl 0 rfl (sl 1 rfl (sl 5 rfl (sl 7 rfl (sl 9 rfl sn))))) (el 1114 rfl en) ?_
    refine tri_seq ?_
    refine tri_seq ?_
    refine tri_reg mixed hcx ?_ _ _
    refine mv rfl ?_
    refine cgt rfl rfl rfl ?_
    refine ⟨by kernel_rfl, ?_⟩
    refine nx (sl 0 rfl (sl 1 rfl (sl 5 rfl (sl 7 rfl (sl 9 rfl (sl 79 rfl sn)))))) (el 1114 rfl en) ?_
    refine tri_if rfl (fun hb => ?_) (fun hb => ?_)
    · obtain rfl : bw = 1 := by have := hD.bw; omega
      have hp1 := digI_pos hD (by omega); have hq1 := hD.q
      refine tri_skip ?_
      refine nx (sl 0 rfl (sl 1 rfl (sl 5 rfl (sl 7 rfl (sl 9 rfl sn))))) (el 1114 rfl en) ?_
      refine tri_block ?_
      refine tri_seq ?_
      refine tri_reg mixed hcx ?_ _ _
      refine mv rfl ?_
      refine sb _ rfl rfl rfl ⟨rfl, by omega, by omega⟩ ?_
      refine asg rfl ?_
      refine ⟨by kernel_rfl, ?_⟩
      refine nx (sl 0 rfl (sl 1 rfl (sl 5 rfl (sl 7 rfl (sl 9 rfl sn))))) (el 1114 rfl en) ?_
      refine tri_seq ?_
      refine tri_reg mixed hcx ?_ _ _
      refine asg rfl ?_
      refine ⟨by kernel_rfl, ?_⟩
      refine nx (sl 0 rfl (sl 1 rfl (sl 5 rfl (sl 7 rfl (sl 9 rfl (sl 13 rfl sn)))))) (el 1114 rfl en) ?_
      refine tri_seq ?_
      refine tri_seq ?_
      refine tri_reg mixed hcx ?_ _ _
      refine mv rfl ?_
      refine ad (((m + 2 : Nat) : Int)) rfl rfl rfl (by omega) ?_
      refine mv rfl ?_
      refine ⟨by kernel_rfl, ?_⟩
      refine nx (sl 0 rfl (sl 1 rfl (sl 5 rfl (sl 7 rfl (sl 9 rfl (sl 13 rfl (sl 83 rfl (sl 84 rfl sn)))))))) (el 1114 rfl en) ?_
      refine tri_block ?_
      refine tri_loop (ι := Nat × Int × List Int) (fun (i, c, ws) => [(0, T.v 1114 pre.length (m + 2)), (1, T.l cU vs), (5, T.c (.int .i64 (vs.length : Int))), (7, T.c (.int .u64 (q - 1))), (9, T.c (.int .u64 1)), (13, T.c (.int .u64 c)), (83, T.c (.int .i64 ((m + 2 : Nat) : Int))), (84, T.c (.int .i64 (i : Int)))]) (fun (i, c, ws) => [(1114, some (Ent.row cU 119 (pre ++ ws ++ post)))]) (fun (i, c, ws) => m + 2 - i) (fun (i, c, ws) => (i ≤ m + 2) ∧ (putI us vs ws (m + 2) i c)) (0, 0, us) ⟨Nat.zero_le _, putI_start hD.len hD.lim⟩ (sl 0 rfl (sl 1 rfl (sl 5 rfl (sl 7 rfl (sl 9 rfl (sl 13 rfl (sl 83 rfl (sl 84 rfl sn)))))))) (el 1114 rfl en) ?_
      rintro ⟨i, c, ws⟩ ⟨hi, hP⟩
      refine tri_sub (sl 0 rfl (sl 1 rfl (sl 5 rfl (sl 7 rfl (sl 9 rfl (sl 13 rfl (sl 83 rfl (sl 84 rfl sn)))))))) (el 1114 rfl en) ?_
      refine tri_seq ?_
      refine tri_reg mixed hcx ?_ _ _
      refine clt rfl rfl rfl ?_
      refine ⟨by kernel_rfl, ?_⟩
      refine nx (sl 0 rfl (sl 1 rfl (sl 5 rfl (sl 7 rfl (sl 9 rfl (sl 13 rfl (sl 83 rfl (sl 84 rfl (sl 85 rfl sn))))))))) (el 1114 rfl en) ?_
      refine tri_seq ?_
      refine tri_if rfl (fun hc => ?_) (fun hc => ?_)
      · have hpc := hP.c; have hlz := hP.len; have hRw := part_len pre ws post; have bx := gd hD.lim i; have bY := gd hlv i
        refine tri_skip ?_
        refine nx (sl 0 rfl (sl 1 rfl (sl 5 rfl (sl 7 rfl (sl 9 rfl (sl 13 rfl (sl 83 rfl (sl 84 rfl sn)))))))) (el 1114 rfl en) ?_
        refine tri_seq ?_
        refine tri_block ?_
        refine tri_seq ?_
        refine tri_reg mixed hcx ?_ _ _
        refine mv rfl ?_
        refine asg rfl ?_
        refine ⟨by kernel_rfl, ?_⟩
        refine nx (sl 0 rfl (sl 1 rfl (sl 5 rfl (sl 7 rfl (sl 9 rfl (sl 13 rfl (sl 14 rfl (sl 83 rfl (sl 84 rfl sn))))))))) (el 1114 rfl en) ?_
        refine tri_seq ?_
        refine tri_reg mixed hcx ?_ _ _
        refine mv rfl ?_
        refine mv rfl ?_
        refine mv rfl ?_
        refine ixv rfl rfl slLs ⟨rfl, by omega⟩ ?_
        refine lo (pre.length + i) rfl rfl tyU32 ⟨(Nat.mul_one _).symm, by omega, by omega⟩ ?_
        refine cvt (us.getD i cU.dflt) rfl cvU32U64 rfl ⟨(part_getD (by omega)).trans hP.at_, by omega, by omega⟩ ?_
        refine ad _ rfl rfl rfl ⟨rfl, by omega, by omega⟩ ?_
        refine asg rfl ?_
        refine ⟨by kernel_rfl, ?_⟩
        refine nx (sl 0 rfl (sl 1 rfl (sl 5 rfl (sl 7 rfl (sl 9 rfl (sl 13 rfl (sl 14 rfl (sl 83 rfl (sl 84 rfl sn))))))))) (el 1114 rfl en) ?_
        refine tri_join (ι := Int × Int) (fun (v, y) => [(0, T.v 1114 pre.length (m + 2)), (1, T.l cU vs), (5, T.c (.int .i64 (vs.length : Int))), (7, T.c (.int .u64 (q - 1))), (9, T.c (.int .u64 1)), (13, T.c (.int .u64 v)), (14, T.c (.int .i64 (i : Int))), (83, T.c (.int .i64 ((m + 2 : Nat) : Int))), (84, T.c (.int .i64 (i : Int)))]) (fun (v, y) => [(1114, some (Ent.row cU 119 (pre ++ ws ++ post)))]) (fun (v, y) => (v = c + us.getD i cU.dflt + y) ∧ (0 ≤ y ∧ y < 4294967296) ∧ (val (vs.take (i + 1)) = val (vs.take i) + B i * y)) ?_ ?_
        · refine tri_seq ?_
          refine tri_reg mixed hcx ?_ _ _
          refine mv rfl ?_
          refine mv rfl ?_
          refine clt rfl rfl rfl ?_
          refine ⟨by kernel_rfl, ?_⟩
          refine nx (sl 0 rfl (sl 1 rfl (sl 5 rfl (sl 7 rfl (sl 9 rfl (sl 13 rfl (sl 14 rfl (sl 83 rfl (sl 84 rfl (sl 96 rfl sn)))))))))) (el 1114 rfl en) ?_
          refine tri_if rfl (fun hd => ?_) (fun hd => ?_)
          · refine tri_reg mixed hcx ?_ _ _
            refine mv rfl ?_
            refine mv rfl ?_
            refine mv rfl ?_
            refine ix rfl rfl slLs ⟨rfl, by omega⟩ ?_
            refine lf rfl tyU32 ?_
            refine cvt _ rfl cvU32U64 rfl ⟨rfl, by omega, by omega⟩ ?_
            refine ad _ rfl rfl rfl ⟨rfl, by omega, by omega⟩ ?_
            refine asg rfl ?_
            refine ⟨by kernel_rfl, ?_⟩
            first | exact pn_join (c + us.getD i cU.dflt + vs.getD i cU.dflt, vs.getD i cU.dflt) ⟨rfl, bY, val_take_succ (by omega)⟩ (sl 0 rfl (sl 1 rfl (sl 5 rfl (sl 7 rfl (sl 9 rfl (sl 13 rfl (sl 14 rfl (sl 83 rfl (sl 84 rfl sn))))))))) (el 1114 rfl en) | exact pn_join (c + us.getD i cU.dflt, 0) ⟨by show c + us.getD i cU.dflt = c + us.getD i cU.dflt + 0; omega, by omega, by rw [List.take_of_length_le (by omega), List.take_of_length_le (by omega)]; omega⟩ (sl 0 rfl (sl 1 rfl (sl 5 rfl (sl 7 rfl (sl 9 rfl (sl 13 rfl (sl 14 rfl (sl 83 rfl (sl 84 rfl sn))))))))) (el 1114 rfl en)
          · refine tri_skip ?_
            first | exact pn_join (c + us.getD i cU.dflt + vs.getD i cU.dflt, vs.getD i cU.dflt) ⟨rfl, bY, val_take_succ (by omega)⟩ (sl 0 rfl (sl 1 rfl (sl 5 rfl (sl 7 rfl (sl 9 rfl (sl 13 rfl (sl 14 rfl (sl 83 rfl (sl 84 rfl sn))))))))) (el 1114 rfl en) | exact pn_join (c + us.getD i cU.dflt, 0) ⟨by show c + us.getD i cU.dflt = c + us.getD i cU.dflt + 0; omega, by omega, by rw [List.take_of_length_le (by omega), List.take_of_length_le (by omega)]; omega⟩ (sl 0 rfl (sl 1 rfl (sl 5 rfl (sl 7 rfl (sl 9 rfl (sl 13 rfl (sl 14 rfl (sl 83 rfl (sl 84 rfl sn))))))))) (el 1114 rfl en)
        · rintro ⟨v, y⟩ ⟨hv, hy0, hyy⟩
          refine tri_sub (sl 0 rfl (sl 1 rfl (sl 5 rfl (sl 7 rfl (sl 9 rfl (sl 13 rfl (sl 14 rfl (sl 83 rfl (sl 84 rfl sn))))))))) (el 1114 rfl en) ?_
          refine tri_seq ?_
          refine tri_reg mixed hcx ?_ _ _
          refine mv rfl ?_
          refine mv rfl ?_
          refine mv rfl ?_
          refine cvm _ rfl cvU64U32 rfl ?_
          refine ixv rfl rfl slLs ⟨rfl, by omega⟩ ?_
          refine so rfl rfl rfl (.refl _) tyU32 (i := pre.length + i) ⟨(Nat.mul_one _).symm, by omega⟩ ?_
          refine ⟨by kernel_rfl, ?_⟩
          refine nx (sl 0 rfl (sl 1 rfl (sl 5 rfl (sl 7 rfl (sl 9 rfl (sl 13 rfl (sl 83 rfl (sl 84 rfl sn)))))))) (el 1114 rfl en) ?_
          refine tri_reg mixed hcx ?_ _ _
          refine mv rfl ?_
          refine shR (s := 32) (v / 4294967296) rfl rfl rfl ⟨by omega, by omega, by decide⟩ ?_
          refine asg rfl ?_
          refine ⟨by kernel_rfl, ?_⟩
          refine pn_blk ?_
          refine nx (sl 0 rfl (sl 1 rfl (sl 5 rfl (sl 7 rfl (sl 9 rfl (sl 13 rfl (sl 83 rfl (sl 84 rfl sn)))))))) (el 1114 rfl en) ?_
          refine tri_reg mixed hcx ?_ _ _
          refine ad (((i + 1 : Nat) : Int)) rfl rfl rfl (by omega) ?_
          refine mv rfl ?_
          refine ⟨by kernel_rfl, ?_⟩
          exact pn_back (i + 1, v / 4294967296, ws.set i (v % 4294967296)) (by first | omega | (dsimp only; omega)) ⟨by omega, putI_step hP (by omega) hD.len hy0.1 hy0.2 hyy _ hv⟩ (sl 0 rfl (sl 1 rfl (sl 5 rfl (sl 7 rfl (sl 9 rfl (sl 13 rfl (sl 83 rfl (sl 84 rfl sn)))))))) (ew 1114 rfl (.of (by rw [part_set (by omega)])) en)
      · refine tri_exit ?_
        repeat (first | refine pn_then ?_ | refine pn_oth (by decide) ?_)
        refine pn_ex ?_
        obtain rfl : i = m + 2 := by omega
        have hpc := hP.c
        refine nx (sl 0 rfl (sl 1 rfl (sl 5 rfl (sl 7 rfl (sl 9 rfl (sl 13 rfl sn)))))) (el 1114 rfl en) ?_
        refine tri_reg mixed hcx ?_ _ _
        refine mv rfl ?_
        refine mv rfl ?_
        refine sb _ rfl rfl rfl ⟨rfl, by omega, by omega⟩ ?_
        refine asg rfl ?_
        refine ⟨by kernel_rfl, ?_⟩
        refine pn_blk ?_
        exact pn_back (q - 1, 1 - c, ws) (by first | omega | (dsimp only; omega)) (digI_step hD hvV (by omega) hP (by omega)) (sl 0 rfl (sl 1 rfl (sl 5 rfl (sl 7 rfl (sl 9 rfl sn))))) (el 1114 rfl en)
    · refine tri_exit ?_
      repeat (first | refine pn_then ?_ | refine pn_oth (by decide) ?_)
      refine pn_ex ?_
      obtain rfl : bw = 0 := by have := hD.bw; omega
      have hE := digI_end hD (by omega); have hQ : q = ((U / V : Nat) : Int) := hE.1.trans (Int.natCast_ediv _ _).symm; subst hQ
      have hz : us = pad (U % V) us.length := pad_of hD.lim (hE.2.trans (Int.natCast_emod _ _).symm); have hDl := hD.q; rw [hD.len] at hz; subst hz
      refine nx (sl 7 rfl sn) (el 1114 rfl en) ?_
      refine tri_seq ?_
      refine tri_reg mixed hcx ?_ _ _
      refine mv rfl ?_
      refine cvm ((U / V : Nat) : Int) rfl cvU64U32 (Int.emod_eq_of_lt hDl.1 hDl.2) ?_
      refine asg rfl ?_
      refine ⟨by kernel_rfl, ?_⟩
      refine nx (sl 4 rfl sn) (el 1114 rfl en) ?_
      refine tri_ret ?_
      repeat (first | refine pn_thenr ?_ | refine pn_blkr ?_)
      exact ret1 hcx rfl (rv_tmp rfl) (.refl _) (el 1114 rfl en)

theorem sgnc_nlt {M N : Nat} (h : ¬ sgnc (M : Int) N < 0) : N ≤ M := Nat.le_of_not_lt fun h1 => h (by rw [sgnc_lt (by omega)]; omega)
theorem tup_le {l l' : List T} (h : LeL l l') : (T.tup l).le (T.tup l') := fun β u v ⟨vs, e, k⟩ => ⟨vs, e, k.le h⟩
theorem top_pos {V m : Nat} (h : (dig V).length = m + 1) : 0 < at_ (dig V) m := by
  have h1 := (dig_lim V).at_ m
  have h2 : at_ (dig V) m ≠ 0 := by
    have := tl_of_can (dig_can V)
    rw [h] at this
    intro h0
    simp only [tl, h0, if_true] at this
    have := Mt.tl_le (dig V) m
    omega
  omega
theorem split3 {us : List Int} {j k : Nat} (h : j + k ≤ us.length) : ∃ pre sub post, us = pre ++ sub ++ post ∧ pre.length = j ∧ sub.length = k :=
  ⟨us.take j, (us.drop j).take k, (us.drop j).drop k, by rw [List.append_assoc, List.take_append_drop, List.take_append_drop], by rw [List.length_take]; omega, by rw [List.length_take, List.length_drop]; omega⟩
theorem div_parts {M N s k : Nat} (hk : lim N = k + 1) (hs : s + nbits (at_ (dig N) k).toNat = 32) : lim (N * 2 ^ s) = k + 1 ∧ ((N * 2 ^ s : Nat) : Int) < B (k + 1) ∧ 0 < N * 2 ^ s := by
  have h := norm_fits hk hs
  exact ⟨h.1, by rw [B_two]; exact Int.ofNat_lt.2 h.2, Nat.mul_pos (lim_pos hk) (Nat.two_pow_pos _)⟩

theorem nat_Div {M N k l : Nat} (hN0 : 0 < N) (hk : k ≤ 1099511627776) (hl : l ≤ 1099511627776) : Fn Tryz.prog 182 [T.L M k, T.L N l] [] [] [] (T.tup [T.l cU (dig (M / N)), T.l cU (dig (M % N)), T.c (.int .i64 0)]) := by
  refine fn_of Tryz.func182 rfl (by show 2 ≤ 99; decide) fun cx hcx => ?_
  refine tri_sub (sl 0 rfl (sl 1 rfl sn)) en ?_
  refine tri_ex 0 rfl fun xs ⟨hl0, hv0, hb0⟩ => ?_
  refine tri_ex 1 rfl fun ys ⟨hl1, hv1, hb1⟩ => ?_
  have hM := lim_val hl0 hv0 hb0; have hN := lim_val hl1 hv1 hb1; unfold lim at hM hN
  have hLM : lim M ≤ k := hM; have hLN : lim N ≤ l := hN
  have hp := lim_ps hN0; unfold lim at hp
  refine tri_seq ?_
  refine tri_reg mixed hcx ?_ _ _
  refine asg rfl ?_
  refine asg rfl ?_
  refine asg rfl ?_
  refine ⟨by kernel_rfl, ?_⟩
  refine nx (sl 0 rfl (sl 1 rfl sn)) en ?_
  refine tri_seq ?_
  refine tri_reg mixed hcx ?_ _ _
  refine mv rfl ?_
  refine ca rfl (h := nat_trim (by omega)) (hn := ?_)
  refine mv rfl ?_
  refine ca rfl (h := nat_trim (by omega)) (hn := ?_)
  refine asg rfl ?_
  refine asg rfl ?_
  refine ⟨by kernel_rfl, ?_⟩
  refine nx (sl 0 rfl (sl 1 rfl sn)) en ?_
  refine tri_seq ?_
  refine tri_block ?_
  refine tri_seq ?_
  refine tri_reg mixed hcx ?_ _ _
  refine mv rfl ?_
  refine ln slLs rfl ?_
  refine ceq rfl rfl (decide_eq_false (by omega)) ?_
  refine asg rfl ?_
  refine ⟨by kernel_rfl, ?_⟩
  refine nx (sl 0 rfl (sl 1 rfl (sl 18 rfl sn))) en ?_
  refine tri_false rfl rfl ?_
  refine tri_seq ?_
  refine tri_reg mixed hcx ?_ _ _
  refine mv rfl ?_
  refine mv rfl ?_
  refine ca rfl (h := nat_Cmp (by omega) (by omega)) (hn := ?_)
  refine clt rfl rfl rfl ?_
  refine asg rfl ?_
  refine ⟨by kernel_rfl, ?_⟩
  refine nx (sl 0 rfl (sl 1 rfl (sl 22 rfl sn))) en ?_
  refine tri_if rfl (fun hc => ?_) (fun hc => ?_)
  · have hlt := sgnc_neg hc
    refine tri_seq ?_
    refine tri_reg mixed hcx ?_ _ _
    refine mv rfl ?_
    refine ca rfl (h := nat_Norm (by omega)) (hn := ?_)
    refine asg rfl ?_
    refine asg rfl ?_
    refine asg rfl ?_
    refine ⟨by kernel_rfl, ?_⟩
    refine nx (sl 4 rfl (sl 5 rfl (sl 6 rfl sn))) en ?_
    refine tri_ret ?_
    repeat (first | refine pn_thenr ?_ | refine pn_blkr ?_)
    exact ret3 hcx rfl (rv_tmp rfl) (rv_tmp rfl) (rv_tmp rfl) (tup_le ⟨nil_dig (Nat.div_eq_of_lt hlt), .of (by rw [Nat.mod_eq_of_lt hlt]), .refl _, trivial⟩) en
  · have hge := sgnc_nlt hc
    refine tri_seq ?_
    refine tri_reg mixed hcx ?_ _ _
    refine mv rfl ?_
    refine ln slLs rfl ?_
    refine ceq rfl rfl rfl ?_
    refine asg rfl ?_
    refine ⟨by kernel_rfl, ?_⟩
    refine nx (sl 0 rfl (sl 1 rfl (sl 29 rfl sn))) en ?_
    refine tri_if rfl (fun hd => ?_) (fun hd => ?_)
    · have h1N := at_one (N := N) (by unfold lim; omega); rw [← getD_at] at h1N
      have h01 : (cU.X ((dig N).getD 0 cU.dflt)).le (T.c (.int .u32 (N : Int))) := .of (by rw [h1N]; rfl)
      have bN := gd (dig_lim N) 0; have hmod := Nat.mod_lt M hN0
      have hL1 : Lim [((M % N : Nat) : Int)] := Lim.one (by omega) (by omega)
      have hL2 : val [((M % N : Nat) : Int)] = ((M % N : Nat) : Int) := val_one _
      have hL3 : [((M % N : Nat) : Int)].length ≤ 1 := Nat.le_refl _
      refine tri_seq ?_
      refine tri_reg mixed hcx ?_ _ _
      refine mv rfl ?_
      refine mv rfl ?_
      refine ix rfl rfl slLs ⟨(rfl : _ = ((0 : Nat) : Int)), by omega⟩ ?_
      refine lf rfl tyU32 ?_
      refine ca rfl (h := nat_short (dig_lim _) (dig_val _) (by omega) (by omega) (by show (dig _).length ≤ _; omega)) (hn := ?_)
      refine mv rfl ?_
      refine ex rfl rfl ?_
      refine ex rfl rfl ?_
      refine asg rfl ?_
      refine asg rfl ?_
      refine ⟨by kernel_rfl, ?_⟩
      refine nx (sl 7 rfl (sl 8 rfl sn)) en ?_
      refine tri_seq ?_
      refine tri_reg mixed hcx ?_ _ _
      refine mv rfl ?_
      refine mv rfl ?_
      refine bl1 rfl slLs zvU32 ?_
      refine ca rfl (h := nat_trim (by omega)) (hn := ?_)
      refine asg rfl ?_
      refine asg rfl ?_
      refine asg rfl ?_
      refine ⟨by kernel_rfl, ?_⟩
      refine nx (sl 4 rfl (sl 5 rfl (sl 6 rfl sn))) en ?_
      refine tri_ret ?_
      repeat (first | refine pn_thenr ?_ | refine pn_blkr ?_)
      exact ret3 hcx rfl (rv_tmp rfl) (rv_tmp rfl) (rv_tmp rfl) (.refl _) en
    · refine tri_skip ?_
      refine pn_blk ?_
      refine nx (sl 0 rfl (sl 1 rfl sn)) en ?_
      refine tri_seq ?_
      obtain ⟨m, hm⟩ : ∃ m, (dig N).length = m + 1 := ⟨(dig N).length - 1, by omega⟩
      have bx := gd (dig_lim N) m; have hn32 : nbits ((dig N).getD m cU.dflt).toNat ≤ 32 := nbits_le (by omega)
      obtain ⟨s, hs⟩ : ∃ s, s + nbits ((dig N).getD m cU.dflt).toNat = 32 := ⟨32 - nbits ((dig N).getD m cU.dflt).toNat, by omega⟩
      obtain ⟨hlV, hVB, hV0⟩ := div_parts (M := M) (s := s) hm hs
      have hM0 : 0 < M := by omega
      have hVl : lim (N * 2 ^ s) ≤ (dig N).length + s / 32 + 1 := by omega
      have hAl : lim (M * 2 ^ s) ≤ (dig M).length + s / 32 + 1 := lim_le (by rw [B_two]; have := shl_fits (M := M) (k := (dig M).length) rfl (show s % 32 < 32 by omega); have h2 : 32 * ((dig M).length + s / 32 + 1) = 32 * ((dig M).length + 1) + 32 * (s / 32) := by { omega }; rw [h2, Nat.pow_add, show M * 2 ^ s = M * 2 ^ (s % 32) * 2 ^ (32 * (s / 32)) from by rw [Nat.mul_assoc, ← Nat.pow_add, Nat.mod_add_div]]; exact_mod_cast Nat.mul_lt_mul_of_pos_right this (Nat.two_pow_pos _))
      have hAg : (dig M).length ≤ lim (M * 2 ^ s) := lim_mono (Nat.le_mul_of_pos_right _ (Nat.two_pow_pos _))
      have hPl := pad_length hAl; have hR0 : ((pad (M * 2 ^ s) ((dig M).length + s / 32 + 1)).take (lim (M * 2 ^ s)) ++ [0, 0]).length = lim (M * 2 ^ s) + 2 := by rw [pad_take, List.length_append]; rfl
      have hls : (dig N).length ≤ (dig M).length := lim_mono hge
      refine tri_reg mixed hcx ?_ _ _
      refine mv rfl ?_
      refine mv rfl ?_
      refine ln slLs rfl ?_
      refine sb ((m : Int)) rfl rfl rfl (by omega) ?_
      refine ix rfl rfl slLs ⟨rfl, by omega⟩ ?_
      refine lf rfl tyU32 ?_
      refine ca rfl (h := c_LZ32 (by omega)) (hn := ?_)
      refine asg rfl ?_
      refine ⟨by kernel_rfl, ?_⟩
      refine nx (sl 0 rfl (sl 1 rfl (sl 9 rfl sn))) en ?_
      refine tri_seq ?_
      refine tri_as 9 (Z := T.c (.int .i64 (s : Int))) rfl (ci (by omega)) ?_
      refine tri_reg mixed hcx ?_ _ _
      refine mv rfl ?_
      refine mv rfl ?_
      refine can (e := 515) rfl (h := nat_shl (n := s) hN0 (by show (dig _).length ≤ _; omega) (by omega)) (hn := ?_)
      refine asg rfl ?_
      refine ⟨by kernel_rfl, ?_⟩
      refine nx (sl 0 rfl (sl 1 rfl (sl 9 rfl (sl 10 rfl sn)))) (el 515 rfl en) ?_
      refine tri_seq ?_
      refine tri_fz 515 rfl ?_
      refine tri_rdv 10 515 (lim (N * 2 ^ s)) rfl rfl (by rw [pad_length hVl]; exact hVl) ?_
      refine tri_as 10 (Z := T.l cU (dig (N * 2 ^ s))) rfl (.of (by rw [pad_take])) ?_
      refine tri_sub (sl 0 rfl (sl 1 rfl (sl 9 rfl (sl 10 rfl sn)))) en ?_
      refine tri_reg mixed hcx ?_ _ _
      refine mv rfl ?_
      refine mv rfl ?_
      refine can (e := 515) rfl (h := nat_shl (n := s) hM0 (by show (dig _).length ≤ _; omega) (by omega)) (hn := ?_)
      refine bl2 rfl rfl slLs zvU32 ?_
      refine apv 1114 rfl rfl rfl slLs ⟨by omega, by simp only [List.length_cons, List.length_nil]; omega⟩ (by decide) ?_
      refine mv rfl ?_
      refine ln slLs rfl ?_
      refine ad ((((dig M).length + 1 : Nat) : Int)) rfl rfl rfl (by omega) ?_
      refine sho rfl rfl slLs rfl ⟨rfl, by omega, by omega⟩ ?_
      refine asg rfl ?_
      refine ⟨by kernel_rfl, ?_⟩
      refine nx (sl 0 rfl (sl 1 rfl (sl 9 rfl (sl 10 rfl (sl 11 rfl sn))))) (el 1114 rfl en) ?_
      refine tri_seq ?_
      refine tri_reg mixed hcx ?_ _ _
      refine mv rfl ?_
      refine ln slLs rfl ?_
      refine mv rfl ?_
      refine ln slLs rfl ?_
      refine sb ((((dig M).length - (dig N).length : Nat) : Int)) rfl rfl rfl (by omega) ?_
      refine ad ((((dig M).length - (dig N).length + 1 : Nat) : Int)) rfl rfl rfl (by omega) ?_
      refine mkz (c := cU) (n := (dig M).length - (dig N).length + 1) 1216 slLs rfl (by omega) (fun u => ⟨zvU32, zrU u⟩) (by decide) ?_
      refine asg rfl ?_
      refine ⟨by kernel_rfl, ?_⟩
      refine nx (sl 0 rfl (sl 1 rfl (sl 9 rfl (sl 10 rfl (sl 11 rfl (sl 12 rfl sn)))))) (el 1114 rfl (el 1216 rfl en)) ?_
      refine tri_seq ?_
      refine tri_seq ?_
      refine tri_reg mixed hcx ?_ _ _
      refine mv rfl ?_
      refine ln slLs rfl ?_
      refine mv rfl ?_
      refine ln slLs rfl ?_
      refine sb ((((dig M).length - (dig N).length : Nat) : Int)) rfl rfl rfl (by omega) ?_
      refine asg rfl ?_
      refine ⟨by kernel_rfl, ?_⟩
      refine nx (sl 9 rfl (sl 10 rfl (sl 11 rfl (sl 12 rfl (sl 13 rfl sn))))) (el 1114 rfl (el 1216 rfl en)) ?_
      refine tri_block ?_
      refine tri_loop (ι := Nat × List Int × List Int) (fun (k, us, qs) => [(9, T.c (.int .i64 (s : Int))), (10, T.l cU (dig (N * 2 ^ s))), (11, T.v 1114 0 ((dig M).length + 1)), (12, T.o 1216), (13, T.c (.int .i64 ((k : Int) - 1)))]) (fun (k, us, qs) => [(1114, some (Ent.row cU 119 (us))), (1216, some (Ent.row cU 119 (qs)))]) (fun (k, us, qs) => k) (fun (k, us, qs) => (k ≤ (dig M).length - (dig N).length + 1) ∧ (divI us qs ((M * 2 ^ s : Nat) : Int) ((N * 2 ^ s : Nat) : Int) (lim (M * 2 ^ s) + 2) ((dig M).length - (dig N).length + 1) k)) ((dig M).length - (dig N).length + 1, (pad (M * 2 ^ s) ((dig M).length + s / 32 + 1)).take (lim (M * 2 ^ s)) ++ [0, 0], List.replicate ((dig M).length - (dig N).length + 1) 0) ⟨Nat.le_refl _, divI_start hR0 (by rw [pad_take]; exact (dig_lim _).append (Lim.noughts 2)) (by rw [pad_take, val_append, dig_val, show val [0, 0] = 0 from val_noughts 2]; omega) (by rw [hm]; exact div_room hm rfl (by omega))⟩ (sl 9 rfl (sl 10 rfl (sl 11 rfl (sl 12 rfl (sw 13 rfl (ci (by omega)) sn))))) (el 1114 rfl (el 1216 rfl en)) ?_
      rintro ⟨k, us, qs⟩ ⟨hk, hI⟩
      refine tri_sub (sl 9 rfl (sl 10 rfl (sl 11 rfl (sl 12 rfl (sl 13 rfl sn))))) (el 1114 rfl (el 1216 rfl en)) ?_
      refine tri_seq ?_
      refine tri_seq ?_
      rcases Nat.eq_zero_or_pos k with h0 | h0
      · subst h0
        refine tri_reg mixed hcx ?_ _ _
        refine mv rfl ?_
        refine cge rfl rfl (decide_eq_false (by omega)) ?_
        refine ⟨by kernel_rfl, ?_⟩
        refine nx (sl 9 rfl (sl 10 rfl (sl 11 rfl (sl 12 rfl (sl 13 rfl (sl 77 rfl sn)))))) (el 1114 rfl (el 1216 rfl en)) ?_
        refine tri_false rfl rfl ?_
        refine tri_exit ?_
        repeat (first | refine pn_then ?_ | refine pn_oth (by decide) ?_)
        refine pn_ex ?_
        refine nx (sl 9 rfl (sl 11 rfl (sl 12 rfl sn))) (el 1114 rfl (el 1216 rfl en)) ?_
        refine tri_seq ?_
        have hE := divI_end hI (by omega); have hQ1 : val qs = ((M / N : Nat) : Int) := by rw [hE.1, ← Int.natCast_ediv, (div_shift M N s hN0).1]
        have hQ2 := hI.qlim; have hQ3 : qs.length ≤ (dig M).length - (dig N).length + 1 := Nat.le_of_eq hI.qlen
        have hRm : val us = ((M * 2 ^ s % (N * 2 ^ s) : Nat) : Int) := hE.2.trans (Int.natCast_emod _ _).symm
        have hmod := Nat.mod_lt (M * 2 ^ s) hV0; have hul := hI.ulen
        have hR4 : lim (M * 2 ^ s % (N * 2 ^ s)) ≤ m + 1 := Nat.le_trans (lim_mono (Nat.le_of_lt hmod)) (by omega)
        have hR1 : val (us.take ((dig M).length + 1)) = ((M * 2 ^ s % (N * 2 ^ s) : Nat) : Int) := (val_take_mod hI.ulim (by omega) (by have := B_mono (show m + 1 ≤ (dig M).length + 1 by omega); omega)).trans hRm
        have hR2 : Lim (us.take ((dig M).length + 1)) := hI.ulim.take _; have hR3 : (us.take ((dig M).length + 1)).length ≤ (dig M).length + 1 := by rw [List.length_take]; omega
        refine tri_fz 1216 rfl ?_
        refine tri_rd 12 1216 rfl rfl ?_
        refine tri_fz 1114 rfl ?_
        refine tri_rdv 11 1114 ((dig M).length + 1) rfl rfl (by omega) ?_
        refine tri_reg mixed hcx ?_ _ _
        refine mv rfl ?_
        refine ca rfl (h := nat_trim (by omega)) (hn := ?_)
        refine mv rfl ?_
        refine ca rfl (h := nat_trim (by omega)) (hn := ?_)
        refine mv rfl ?_
        refine ca rfl (h := nat_shr (by omega) (by omega)) (hn := ?_)
        refine asg rfl ?_
        refine asg rfl ?_
        refine asg rfl ?_
        refine ⟨by kernel_rfl, ?_⟩
        refine nx (sl 4 rfl (sl 5 rfl (sl 6 rfl sn))) (el 1114 rfl (el 1216 rfl en)) ?_
        refine tri_ret ?_
        repeat (first | refine pn_thenr ?_ | refine pn_blkr ?_)
        exact ret3 hcx rfl (rv_tmp rfl) (rv_tmp rfl) (rv_tmp rfl) (tup_le ⟨.refl _, .of (by rw [(div_shift M N s hN0).2]), .refl _, trivial⟩) en
      · obtain ⟨j, rfl⟩ : ∃ j, k = j + 1 := ⟨k - 1, by omega⟩
        have hul := hI.ulen; have hql := hI.qlen
        obtain ⟨pre, sub, post, rfl, hpl, hsl⟩ := split3 (us := us) (j := j) (k := m + 2) (by omega)
        obtain ⟨p1, p2, p3, p4, p5⟩ := divI_part hI hpl hsl hVB
        obtain ⟨U, hvU⟩ : ∃ U : Nat, val sub = U := ⟨(val sub).toNat, by omega⟩
        have hsL : Lim sub := hI.ulim.left.right
        have hvv : (T.v 1114 (0 + j) (j + (m + 2) - j)).le (T.v 1114 pre.length (m + 2)) := .of (by rw [hpl, Nat.zero_add, Nat.add_sub_cancel_left])
        have hVd : (dig (N * 2 ^ s)).length = m + 1 := hlV
        have hmod := Nat.mod_lt U hV0; have hpm : lim (U % (N * 2 ^ s)) ≤ m + 2 := Nat.le_trans (lim_mono (Nat.le_of_lt hmod)) (by omega)
        refine tri_reg mixed hcx ?_ _ _
        refine mv rfl ?_
        refine cge rfl rfl (decide_eq_true (by omega)) ?_
        refine ⟨by kernel_rfl, ?_⟩
        refine nx (sl 9 rfl (sl 10 rfl (sl 11 rfl (sl 12 rfl (sl 13 rfl (sl 77 rfl sn)))))) (el 1114 rfl (el 1216 rfl en)) ?_
        refine tri_true rfl rfl ?_
        refine tri_skip ?_
        refine nx (sl 9 rfl (sl 10 rfl (sl 11 rfl (sl 12 rfl (sl 13 rfl sn))))) (el 1114 rfl (el 1216 rfl en)) ?_
        refine tri_seq ?_
        refine tri_block ?_
        refine tri_reg mixed hcx ?_ _ _
        refine mv rfl ?_
        refine mv rfl ?_
        refine mv rfl ?_
        refine mv rfl ?_
        refine mv rfl ?_
        refine mv rfl ?_
        refine ln slLs rfl ?_
        refine ad (((j + (m + 1) : Nat) : Int)) rfl rfl rfl (by omega) ?_
        refine ad (((j + (m + 2) : Nat) : Int)) rfl rfl rfl (by omega) ?_
        refine scv rfl slLs rfl rfl ⟨(by omega : _ = (j : Int)), rfl, by omega, by omega⟩ ?_
        refine mv rfl ?_
        refine cas (hE := rfl) (e := 1114) rfl (h := nat_digit (post := post) hsL hsl hvU (dig_lim _) hVd (dig_val _) (top_pos hVd) hV0 (by omega) (by omega)) (hn := ?_)
        refine ixo rfl rfl rfl slLs ⟨(by omega : _ = (j : Int)), by omega⟩ ?_
        refine so rfl rfl rfl (.refl _) tyU32 ⟨rfl, by omega⟩ ?_
        refine ⟨by kernel_rfl, ?_⟩
        refine pn_blk ?_
        refine nx (sl 9 rfl (sl 10 rfl (sl 11 rfl (sl 12 rfl (sl 13 rfl sn))))) (el 1114 rfl (el 1216 rfl en)) ?_
        refine tri_reg mixed hcx ?_ _ _
        refine mv rfl ?_
        refine sb _ rfl rfl rfl ⟨rfl, by omega, by omega⟩ ?_
        refine asg rfl ?_
        refine ⟨by kernel_rfl, ?_⟩
        exact pn_back (j, pre ++ pad (U % (N * 2 ^ s)) (m + 2) ++ post, qs.set j ((U / (N * 2 ^ s) : Nat) : Int)) (by first | omega | (dsimp only; omega)) ⟨by omega, by { have h := divI_step hI hpl hsl hVB (by omega) (by omega) (pad_length hpm) (pad_lim _ _) (by rw [pad_val, hvU, Int.natCast_emod]); rwa [hvU, ← Int.natCast_ediv] at h }⟩ (sl 9 rfl (sl 10 rfl (sl 11 rfl (sl 12 rfl (sw 13 rfl (ci (by omega)) sn))))) (el 1114 rfl (el 1216 rfl en))

theorem nat_Gcd {M N k l : Nat} (hk : k ≤ 1099511627776) (hl : l ≤ 1099511627776) : Fn Tryz.prog 193 [T.L M k, T.L N l] [] [] [] (T.l cU (dig (Nat.gcd M N))) := by
  refine fn_of Tryz.func193 rfl (by show 2 ≤ 27; decide) fun cx hcx => ?_
  refine tri_sub (sl 0 rfl (sl 1 rfl sn)) en ?_
  refine tri_ex 0 rfl fun xs ⟨hl0, hv0, hb0⟩ => ?_
  refine tri_ex 1 rfl fun ys ⟨hl1, hv1, hb1⟩ => ?_
  have hM := lim_val hl0 hv0 hb0; have hN := lim_val hl1 hv1 hb1; unfold lim at hM hN
  refine tri_seq ?_
  refine tri_reg mixed hcx ?_ _ _
  refine asg rfl ?_
  refine ⟨by kernel_rfl, ?_⟩
  refine nx (sl 0 rfl (sl 1 rfl sn)) en ?_
  refine tri_seq ?_
  refine tri_reg mixed hcx ?_ _ _
  refine mv rfl ?_
  refine ca rfl (h := nat_Norm (by omega)) (hn := ?_)
  refine mv rfl ?_
  refine ca rfl (h := nat_Norm (by omega)) (hn := ?_)
  refine asg rfl ?_
  refine asg rfl ?_
  refine ⟨by kernel_rfl, ?_⟩
  refine nx (sl 5 rfl (sl 6 rfl sn)) en ?_
  refine tri_seq ?_
  refine tri_block ?_
  refine tri_loop (ι := Nat × Nat) (fun (a, b) => [(5, T.l cU (dig a)), (6, T.l cU (dig b))]) (fun (a, b) => []) (fun (a, b) => b) (fun (a, b) => (Nat.gcd a b = Nat.gcd M N) ∧ (lim a ≤ 1099511627776) ∧ (lim b ≤ 1099511627776)) (M, N) ⟨rfl, Nat.le_trans hM hk, Nat.le_trans hN hl⟩ (sl 5 rfl (sl 6 rfl sn)) en ?_
  rintro ⟨a, b⟩ ⟨hg, ha, hb⟩
  refine tri_sub (sl 5 rfl (sl 6 rfl sn)) en ?_
  refine tri_seq ?_
  refine tri_seq ?_
  refine tri_reg mixed hcx ?_ _ _
  refine mv rfl ?_
  refine ln slLs rfl ?_
  refine cgt rfl rfl rfl ?_
  refine ⟨by kernel_rfl, ?_⟩
  refine nx (sl 5 rfl (sl 6 rfl (sl 16 rfl sn))) en ?_
  refine tri_if rfl (fun hc => ?_) (fun hc => ?_)
  · have hb0 : 0 < b := Nat.pos_of_ne_zero fun h => by { subst h; rw [dig_zero] at hc; simp at hc }
    refine tri_skip ?_
    refine nx (sl 5 rfl (sl 6 rfl sn)) en ?_
    refine tri_block ?_
    refine tri_seq ?_
    refine tri_reg mixed hcx ?_ _ _
    refine mv rfl ?_
    refine mv rfl ?_
    refine ca rfl (h := nat_Div (by omega) (by omega) (by omega)) (hn := ?_)
    refine mv rfl ?_
    refine ex rfl rfl ?_
    refine ex rfl rfl ?_
    refine ex rfl rfl ?_
    refine asg rfl ?_
    refine asg rfl ?_
    refine asg rfl ?_
    refine ⟨by kernel_rfl, ?_⟩
    refine nx (sl 6 rfl (sl 8 rfl sn)) en ?_
    refine tri_reg mixed hcx ?_ _ _
    refine mv rfl ?_
    refine mv rfl ?_
    refine asg rfl ?_
    refine asg rfl ?_
    refine ⟨by kernel_rfl, ?_⟩
    refine pn_blk ?_
    exact pn_back (b, a % b) (Nat.mod_lt a hb0) ⟨by rw [← hg, Nat.gcd_comm a b, Nat.gcd_rec b a, Nat.gcd_comm], hb, Nat.le_trans (lim_mono (Nat.le_of_lt (Nat.mod_lt a hb0))) hb⟩ (sl 5 rfl (sl 6 rfl sn)) en
  · refine tri_exit ?_
    repeat (first | refine pn_then ?_ | refine pn_oth (by decide) ?_)
    refine pn_ex ?_
    obtain rfl : b = 0 := Nat.eq_zero_of_not_pos fun h => by { have := lim_ps h; unfold lim at this; omega }
    rw [Nat.gcd_zero_right] at hg
    refine nx (sl 5 rfl sn) en ?_
    refine tri_seq ?_
    refine tri_reg mixed hcx ?_ _ _
    refine mv rfl ?_
    refine asg rfl ?_
    refine ⟨by kernel_rfl, ?_⟩
    refine nx (sl 4 rfl sn) en ?_
    refine tri_ret ?_
    repeat (first | refine pn_thenr ?_ | refine pn_blkr ?_)
    exact ret1 hcx rfl (rv_tmp rfl) (.of (by rw [hg])) en
end Go.Proofs.YtekghdfbhbhigaaGreat.V
/- Contracts of package zint. -/
set_option linter.unusedVariables false
set_option linter.unusedSimpArgs false
set_option maxRecDepth 100000
namespace Go.Proofs.YtekghdfbhbhigaaGreat.V
open Go.RowKit Mt Nml
theorem intv_not (s : Bool) (M : Nat) : intv (!s) M = -intv s M := by cases s <;> simp [intv]
theorem intv_zero (s : Bool) : intv s 0 = 0 := by cases s <;> rfl
theorem zl_intv (s : Bool) (N : Nat) : zl (intv s N) = lim N := by unfold zl; rw [intv_natAbs]
theorem z_cast {z z' : Int} {k k' : Nat} (h : z = z') (hk : k ≤ k') : (T.Z z k).le (T.Z z' k') := by subst h; exact z_mono hk
theorem z_bd {s : Bool} {M : Nat} {xs : List Int} {k : Nat} (h1 : Lim xs) (h2 : val xs = M) (h3 : xs.length ≤ k) : zl (intv s M) ≤ k := by rw [zl_intv]; exact lim_val h1 h2 h3
/-- However told: the bound may be another. -/
theorem z_as {z : Int} {k k' : Nat} (h : zl z ≤ k') : (T.Z z k).le (T.Z z k') := ex_le id fun _ _ => ⟨h, .refl _⟩
theorem made0 {s : Bool} {N k : Nat} (h : lim N = 0) : (T.st [T.c (.bool false), T.c (.slice none 0 0)]).le (T.Z (intv s N) k) := by
  have : N = 0 := Nat.eq_zero_of_not_pos fun h1 => by have := lim_ps h1; omega
  subst this
  rw [intv_zero]
  have e := z_of (s := false) (z := 0) (k := k) rfl (by rw [show zl 0 = 0 from by unfold zl; exact lim_zero]; omega)
  rw [show (0 : Int).natAbs = 0 from rfl, dig_zero] at e
  exact nil_st.trans e
theorem made1 {s : Bool} {N k : Nat} (h : 0 < lim N) (hk : lim N ≤ k) : (T.st [T.c (.bool s), T.l cU (dig N)]).le (T.Z (intv s N) k) := by
  have h0 : N ≠ 0 := fun e => by subst e; rw [lim_zero] at h; omega
  have e := z_of (s := s) (z := intv s N) (k := k) (intv_sgn s h0) (by rw [zl_intv]; exact hk)
  rwa [intv_natAbs] at e

theorem zi_made {s : Bool} {N k : Nat} (hk : k ≤ 17592186044416) : Fn Tryz.prog 130 [T.c (.bool s), T.L N k] [] [] [] (T.Z (intv s N) k) := by
  refine fn_of Tryz.func130 rfl (by show 2 ≤ 32; decide) fun cx hcx => ?_
  refine tri_sub (sl 0 rfl (sl 1 rfl sn)) en ?_
  refine tri_ex 1 rfl fun xs ⟨hl, hv, hb⟩ => ?_
  have hN := lim_val hl hv hb
  refine tri_seq ?_
  refine tri_reg mixed hcx ?_ _ _
  refine nw 10 zeZ ?_
  refine ⟨by kernel_rfl, ?_⟩
  refine nx (sl 0 rfl (sl 1 rfl (sl 4 rfl sn))) (el 10 rfl en) ?_
  refine tri_seq ?_
  refine tri_reg mixed hcx ?_ _ _
  refine mv rfl ?_
  refine ln slLs rfl ?_
  refine asg rfl ?_
  refine ⟨by kernel_rfl, ?_⟩
  refine nx (sl 0 rfl (sl 1 rfl (sl 4 rfl (sl 5 rfl sn)))) (el 10 rfl en) ?_
  refine tri_seq ?_
  refine tri_block ?_
  refine tri_loop (ι := Nat) (fun j => [(0, T.c (.bool s)), (1, T.l cU xs), (4, T.p 10 0), (5, T.c (.int .i64 (j : Int)))]) (fun j => [(10, some (Ent.box 32 [T.c (.bool false), T.c (.slice none 0 0)]))]) (fun j => j) (fun j => (j ≤ xs.length) ∧ (tl xs j = tl xs xs.length)) xs.length ⟨Nat.le_refl _, rfl⟩ (sl 0 rfl (sl 1 rfl (sl 4 rfl (sl 5 rfl sn)))) (el 10 rfl en) ?_
  rintro j ⟨hj, ht⟩
  refine tri_sub (sl 0 rfl (sl 1 rfl (sl 4 rfl (sl 5 rfl sn)))) (el 10 rfl en) ?_
  refine tri_seq ?_
  refine tri_seq ?_
  rcases Nat.eq_zero_or_pos j with h0 | h0
  · subst h0
    refine tri_reg mixed hcx ?_ _ _
    refine mv rfl ?_
    refine cgt rfl rfl (decide_eq_false (by omega)) ?_
    refine mv rfl ?_
    refine j_off rfl rfl rfl rfl ?_
    refine j_off rfl rfl rfl rfl ?_
    refine j_off rfl rfl rfl rfl ?_
    refine j_off rfl rfl rfl rfl ?_
    refine j_off rfl rfl rfl rfl ?_
    refine j_off rfl rfl rfl rfl ?_
    refine pk rfl rfl ?_
    refine ⟨by kernel_rfl, ?_⟩
    refine nx (sl 0 rfl (sl 1 rfl (sl 4 rfl (sl 5 rfl (sl 18 rfl sn))))) (el 10 rfl en) ?_
    refine tri_false rfl rfl ?_
    refine tri_exit ?_
    repeat (first | refine pn_then ?_ | refine pn_oth (by decide) ?_)
    refine pn_ex ?_
    refine nx (sl 0 rfl (sl 1 rfl (sl 4 rfl (sl 5 rfl sn)))) (el 10 rfl en) ?_
    refine tri_seq ?_
    refine tri_seq ?_
    have hkk : lim N = 0 := by rw [← tl_lim hl hv, ← ht]; rfl
    refine tri_reg mixed hcx ?_ _ _
    refine mv rfl ?_
    refine ceq rfl rfl (decide_eq_true (by omega)) ?_
    refine ⟨by kernel_rfl, ?_⟩
    refine nx (sl 0 rfl (sl 1 rfl (sl 4 rfl (sl 5 rfl (sl 22 rfl sn))))) (el 10 rfl en) ?_
    refine tri_true rfl rfl ?_
    refine tri_seq ?_
    refine tri_reg mixed hcx ?_ _ _
    refine bu stZ rfl ?_
    refine st rfl rfl rfl tyZ rfl ?_
    refine ⟨by kernel_rfl, ?_⟩
    refine nx (sl 4 rfl sn) (el 10 rfl en) ?_
    refine tri_ret ?_
    repeat (first | refine pn_thenr ?_ | refine pn_blkr ?_)
    exact ret1 hcx rfl (rv_cell (c' := cx) (n := 0) rfl rfl tyZ rfl) (made0 hkk) en
  · obtain ⟨m, rfl⟩ : ∃ m, j = m + 1 := ⟨j - 1, by omega⟩
    refine tri_reg mixed hcx ?_ _ _
    refine mv rfl ?_
    refine cgt rfl rfl (decide_eq_true (by omega)) ?_
    refine mv rfl ?_
    refine mv rfl ?_ (hg := gd1)
    refine mv rfl ?_ (hg := gd1)
    refine sb ((m : Int)) rfl rfl rfl (by omega) ?_ (hg := gd1)
    refine ix rfl rfl slLs ⟨rfl, by omega⟩ ?_ (hg := gd1)
    refine lf rfl tyU32 ?_ (hg := gd1)
    refine ceq rfl rfl rfl ?_ (hg := gd1)
    refine pk rfl rfl ?_
    refine ⟨by kernel_rfl, ?_⟩
    refine nx (sl 0 rfl (sl 1 rfl (sl 4 rfl (sl 5 rfl (sl 18 rfl sn))))) (el 10 rfl en) ?_
    refine tri_if rfl (fun hc => ?_) (fun hc => ?_)
    · rw [getD_at] at hc
      refine tri_skip ?_
      refine nx (sl 0 rfl (sl 1 rfl (sl 4 rfl (sl 5 rfl sn)))) (el 10 rfl en) ?_
      refine tri_block ?_
      refine tri_reg mixed hcx ?_ _ _
      refine mv rfl ?_
      refine sb _ rfl rfl rfl ⟨rfl, by omega, by omega⟩ ?_
      refine asg rfl ?_
      refine ⟨by kernel_rfl, ?_⟩
      refine pn_blk ?_
      exact pn_back m (by first | omega | (dsimp only; omega)) ⟨by omega, by rw [← ht]; simp [tl, hc]⟩ (sl 0 rfl (sl 1 rfl (sl 4 rfl (sw 5 rfl (ci (by omega)) sn)))) (el 10 rfl en)
    · rw [getD_at] at hc
      refine tri_exit ?_
      repeat (first | refine pn_then ?_ | refine pn_oth (by decide) ?_)
      refine pn_ex ?_
      refine nx (sl 0 rfl (sl 1 rfl (sl 4 rfl (sl 5 rfl sn)))) (el 10 rfl en) ?_
      refine tri_seq ?_
      refine tri_seq ?_
      have hkk : lim N = m + 1 := by rw [← tl_lim hl hv, ← ht]; simp [tl, hc]
      refine tri_reg mixed hcx ?_ _ _
      refine mv rfl ?_
      refine ceq rfl rfl (decide_eq_false (by omega)) ?_
      refine ⟨by kernel_rfl, ?_⟩
      refine nx (sl 0 rfl (sl 1 rfl (sl 4 rfl (sl 5 rfl (sl 22 rfl sn))))) (el 10 rfl en) ?_
      refine tri_false rfl rfl ?_
      refine tri_skip ?_
      refine nx (sl 0 rfl (sl 1 rfl (sl 4 rfl (sl 5 rfl sn)))) (el 10 rfl en) ?_
      refine tri_seq ?_
      refine tri_reg mixed hcx ?_ _ _
      refine mv rfl ?_
      refine mkz (c := cU) (n := m + 1) 611 slLs rfl (by omega) (fun u => ⟨zvU32, zrU u⟩) (by decide) ?_
      refine asg rfl ?_
      refine ⟨by kernel_rfl, ?_⟩
      refine nx (sl 0 rfl (sl 1 rfl (sl 4 rfl (sl 6 rfl sn)))) (el 10 rfl (el 611 rfl en)) ?_
      refine tri_seq ?_
      refine tri_reg mixed hcx ?_ _ _
      refine mv rfl ?_
      refine mv rfl ?_
      refine cpy rfl rfl rfl slLs (by rw [List.length_replicate]; omega) ?_
      refine ⟨by kernel_rfl, ?_⟩
      refine nx (sl 0 rfl (sl 4 rfl (sl 6 rfl sn))) (el 10 rfl (el 611 rfl en)) ?_
      refine tri_seq ?_
      refine tri_fz 611 rfl ?_
      refine tri_rd 6 611 rfl rfl ?_
      refine tri_as 6 (Z := T.l cU (dig N)) rfl (.of (by rw [List.length_replicate, ← hkk, ← tl_lim hl hv, trim_dig hl hv])) ?_
      refine tri_reg mixed hcx ?_ _ _
      refine mv rfl ?_
      refine mv rfl ?_
      refine bu stZ rfl ?_
      refine st rfl rfl rfl tyZ rfl ?_
      refine ⟨by kernel_rfl, ?_⟩
      refine nx (sl 4 rfl sn) (el 10 rfl (el 611 rfl en)) ?_
      refine tri_ret ?_
      repeat (first | refine pn_thenr ?_ | refine pn_blkr ?_)
      exact ret1 hcx rfl (rv_cell (c' := cx) (n := 0) rfl rfl tyZ rfl) (made1 (by omega) (by omega)) en

theorem zi_Form {z : Int} {k : Nat} (hk : k ≤ 17592186044416) : Fn Tryz.prog 77 [T.Zi z k] [] [] [] (T.Z z k) := by
  refine fn_of Tryz.func77 rfl (by show 1 ≤ 8; decide) fun cx hcx => ?_
  refine tri_sub (sl 0 rfl sn) en ?_
  refine tri_zi 0 rfl fun s0 M0 x0 hl0 hv0 hb0 hz0 hq0 => ?_
  subst hz0; have hB0 := lim_val hl0 hv0 hb0
  refine tri_seq ?_
  refine tri_reg mixed hcx ?_ _ _
  refine bxs 10 rfl ?_
  refine nw 11 zeZ ?_
  refine ⟨by kernel_rfl, ?_⟩
  refine nx (sl 1 rfl (sl 2 rfl sn)) (el 10 rfl (el 11 rfl en)) ?_
  refine tri_seq ?_
  refine tri_reg mixed hcx ?_ _ _
  refine fa rfl fNeg 0 ?_
  refine ld rfl rfl tyB rfl ?_
  refine fa rfl fMag 1 ?_
  refine ld rfl rfl tyLs rfl ?_
  refine ca rfl (h := zi_made (by omega)) (hn := ?_)
  refine st rfl rfl rfl tyZ rfl ?_
  refine ⟨by kernel_rfl, ?_⟩
  refine nx (sl 2 rfl sn) (el 10 rfl (el 11 rfl en)) ?_
  refine tri_ret ?_
  repeat (first | refine pn_thenr ?_ | refine pn_blkr ?_)
  exact ret1 hcx rfl (rv_cell (c' := cx) (n := 0) rfl rfl tyZ rfl) (.refl _) en

theorem zi_Neg {z : Int} {k : Nat} (hk : k ≤ 17592186044416) : Fn Tryz.prog 149 [T.Zi z k] [] [] [] (T.Z (-z) k) := by
  refine fn_of Tryz.func149 rfl (by show 1 ≤ 9; decide) fun cx hcx => ?_
  refine tri_sub (sl 0 rfl sn) en ?_
  refine tri_zi 0 rfl fun s0 M0 x0 hl0 hv0 hb0 hz0 hq0 => ?_
  subst hz0; have hB0 := lim_val hl0 hv0 hb0
  refine tri_seq ?_
  refine tri_reg mixed hcx ?_ _ _
  refine bxs 10 rfl ?_
  refine nw 11 zeZ ?_
  refine ⟨by kernel_rfl, ?_⟩
  refine nx (sl 1 rfl (sl 2 rfl sn)) (el 10 rfl (el 11 rfl en)) ?_
  refine tri_seq ?_
  refine tri_reg mixed hcx ?_ _ _
  refine fa rfl fNeg 0 ?_
  refine ld rfl rfl tyB rfl ?_
  refine nt rfl _ rfl ?_
  refine fa rfl fMag 1 ?_
  refine ld rfl rfl tyLs rfl ?_
  refine ca rfl (h := zi_made (by omega)) (hn := ?_)
  refine st rfl rfl rfl tyZ rfl ?_
  refine ⟨by kernel_rfl, ?_⟩
  refine nx (sl 2 rfl sn) (el 10 rfl (el 11 rfl en)) ?_
  refine tri_ret ?_
  repeat (first | refine pn_thenr ?_ | refine pn_blkr ?_)
  exact ret1 hcx rfl (rv_cell (c' := cx) (n := 0) rfl rfl tyZ rfl) (z_cast (intv_not _ _) (Nat.le_refl _)) en

theorem sgi_zero {s : Bool} {M : Nat} (h : M = 0) : sg (intv s M) = 0 := by rw [sg_intv, if_pos h]
theorem sgi_neg {M : Nat} (h : M ≠ 0) : sg (intv true M) = -1 := by rw [sg_intv, if_neg h]; rfl
theorem sgi_pos {M : Nat} (h : M ≠ 0) : sg (intv false M) = 1 := by rw [sg_intv, if_neg h]; rfl
theorem nbits_zero_iff (M : Nat) : ((nbits M : Nat) : Int) = 0 ↔ M = 0 := ⟨fun h => by have := lt_nbits M; rw [show nbits M = 0 by omega] at this; omega, fun h => by subst h; rfl⟩

theorem zi_Sign {z : Int} {k : Nat} (hk : k ≤ 17592186044416) : Fn Tryz.prog 96 [T.Zi z k] [] [] [] (T.c (.int .i64 (sg z))) := by
  refine fn_of Tryz.func96 rfl (by show 1 ≤ 11; decide) fun cx hcx => ?_
  refine tri_sub (sl 0 rfl sn) en ?_
  refine tri_zi 0 rfl fun s0 M0 x0 hl0 hv0 hb0 hz0 hq0 => ?_
  subst hz0; have hB0 := lim_val hl0 hv0 hb0
  refine tri_seq ?_
  refine tri_reg mixed hcx ?_ _ _
  refine bxs 10 rfl ?_
  refine asg rfl ?_
  refine ⟨by kernel_rfl, ?_⟩
  refine nx (sl 1 rfl sn) (el 10 rfl en) ?_
  refine tri_seq ?_
  refine tri_block ?_
  refine tri_seq ?_
  refine tri_reg mixed hcx ?_ _ _
  refine fa rfl fMag 1 ?_
  refine ld rfl rfl tyLs rfl ?_
  refine ca rfl (h := nat_Bits (by omega)) (hn := ?_)
  refine ceq rfl rfl rfl ?_
  refine asg rfl ?_
  refine ⟨by kernel_rfl, ?_⟩
  refine nx (sl 1 rfl (sl 3 rfl sn)) (el 10 rfl en) ?_
  refine tri_if rfl (fun hc => ?_) (fun hc => ?_)
  · rw [nbits_zero_iff] at hc
    refine tri_seq ?_
    refine tri_reg mixed hcx ?_ _ _
    refine asg rfl ?_
    refine ⟨by kernel_rfl, ?_⟩
    refine nx (sl 2 rfl sn) (el 10 rfl en) ?_
    refine tri_ret ?_
    repeat (first | refine pn_thenr ?_ | refine pn_blkr ?_)
    exact ret1 hcx rfl (rv_tmp rfl) (ci (sgi_zero hc).symm) en
  · rw [nbits_zero_iff] at hc
    refine tri_seq ?_
    rcases Bool.eq_false_or_eq_true s0 with h0 | h0
    · subst h0
      refine tri_reg mixed hcx ?_ _ _
      refine fa rfl fNeg 0 ?_
      refine ld rfl rfl tyB rfl ?_
      refine asg rfl ?_
      refine ⟨by kernel_rfl, ?_⟩
      refine nx (sl 8 rfl sn) (el 10 rfl en) ?_
      refine tri_true rfl rfl ?_
      refine tri_seq ?_
      refine tri_reg mixed hcx ?_ _ _
      refine asg rfl ?_
      refine ⟨by kernel_rfl, ?_⟩
      refine nx (sl 2 rfl sn) (el 10 rfl en) ?_
      refine tri_ret ?_
      repeat (first | refine pn_thenr ?_ | refine pn_blkr ?_)
      exact ret1 hcx rfl (rv_tmp rfl) (ci (sgi_neg hc).symm) en
    · subst h0
      refine tri_reg mixed hcx ?_ _ _
      refine fa rfl fNeg 0 ?_
      refine ld rfl rfl tyB rfl ?_
      refine asg rfl ?_
      refine ⟨by kernel_rfl, ?_⟩
      refine nx (sl 8 rfl sn) (el 10 rfl en) ?_
      refine tri_false rfl rfl ?_
      refine tri_skip ?_
      refine pn_blk ?_
      refine nx sn (el 10 rfl en) ?_
      refine tri_seq ?_
      refine tri_reg mixed hcx ?_ _ _
      refine asg rfl ?_
      refine ⟨by kernel_rfl, ?_⟩
      refine nx (sl 2 rfl sn) (el 10 rfl en) ?_
      refine tri_ret ?_
      repeat (first | refine pn_thenr ?_ | refine pn_blkr ?_)
      exact ret1 hcx rfl (rv_tmp rfl) (ci (sgi_pos hc).symm) en

theorem intv_diff {s t : Bool} (h : ¬ s = t) {M N : Nat} (h1 : N ≤ M) : intv s (M - N) = intv s M + intv t N := by cases s <;> cases t <;> simp [intv] at h ⊢ <;> omega

theorem zi_Add {a b : Int} {k l : Nat} (hk : k ≤ 4398046511104) (hl : l ≤ 4398046511104) : Fn Tryz.prog 147 [T.Zi a k, T.Zi b l] [] [] [] (T.Z (a + b) (k + l + 1)) := by
  refine fn_of Tryz.func147 rfl (by show 2 ≤ 40; decide) fun cx hcx => ?_
  refine tri_sub (sl 0 rfl (sl 1 rfl sn)) en ?_
  refine tri_zi 0 rfl fun s0 M0 x0 hl0 hv0 hb0 hz0 hq0 => ?_
  subst hz0; have hB0 := lim_val hl0 hv0 hb0
  refine tri_zi 1 rfl fun s1 M1 x1 hl1 hv1 hb1 hz1 hq1 => ?_
  subst hz1; have hB1 := lim_val hl1 hv1 hb1
  have hzA := zl_add (z_bd (s := s0) hl0 hv0 hb0) (z_bd (s := s1) hl1 hv1 hb1)
  have hlA := lim_add2 hB0 hB1
  refine tri_seq ?_
  refine tri_reg mixed hcx ?_ _ _
  refine bxs 10 rfl ?_
  refine bxs 11 rfl ?_
  refine nw 12 zeZ ?_
  refine ⟨by kernel_rfl, ?_⟩
  refine nx (sl 2 rfl (sl 3 rfl (sl 4 rfl sn))) (el 10 rfl (el 11 rfl (el 12 rfl en))) ?_
  refine tri_seq ?_
  refine tri_seq ?_
  by_cases hs : s0 = s1
  · subst hs
    refine tri_reg mixed hcx ?_ _ _
    refine fa rfl fNeg 0 ?_
    refine ld rfl rfl tyB rfl ?_
    refine fa rfl fNeg 0 ?_
    refine ld rfl rfl tyB rfl ?_
    refine eqb rfl rfl (beq_self_eq_true _) ?_
    refine ⟨by kernel_rfl, ?_⟩
    refine nx (sl 2 rfl (sl 3 rfl (sl 4 rfl (sl 11 rfl sn)))) (el 10 rfl (el 11 rfl (el 12 rfl en))) ?_
    refine tri_true rfl rfl ?_
    refine tri_seq ?_
    refine tri_reg mixed hcx ?_ _ _
    refine fa rfl fNeg 0 ?_
    refine ld rfl rfl tyB rfl ?_
    refine fa rfl fMag 1 ?_
    refine ld rfl rfl tyLs rfl ?_
    refine fa rfl fMag 1 ?_
    refine ld rfl rfl tyLs rfl ?_
    refine ca rfl (h := nat_Add (by omega) (by omega)) (hn := ?_)
    refine ca rfl (h := zi_made (by omega)) (hn := ?_)
    refine st rfl rfl rfl tyZ rfl ?_
    refine ⟨by kernel_rfl, ?_⟩
    refine nx (sl 4 rfl sn) (el 10 rfl (el 11 rfl (el 12 rfl en))) ?_
    refine tri_ret ?_
    repeat (first | refine pn_thenr ?_ | refine pn_blkr ?_)
    exact ret1 hcx rfl (rv_cell (c' := cx) (n := 0) rfl rfl tyZ rfl) ((z_cast (intv_add _ _ _).symm (Nat.le_refl _)).trans (z_as hzA)) en
  · refine tri_reg mixed hcx ?_ _ _
    refine fa rfl fNeg 0 ?_
    refine ld rfl rfl tyB rfl ?_
    refine fa rfl fNeg 0 ?_
    refine ld rfl rfl tyB rfl ?_
    refine eqb rfl rfl (beq_false_of_ne hs) ?_
    refine ⟨by kernel_rfl, ?_⟩
    refine nx (sl 2 rfl (sl 3 rfl (sl 4 rfl (sl 11 rfl sn)))) (el 10 rfl (el 11 rfl (el 12 rfl en))) ?_
    refine tri_false rfl rfl ?_
    refine tri_skip ?_
    refine nx (sl 2 rfl (sl 3 rfl (sl 4 rfl sn))) (el 10 rfl (el 11 rfl (el 12 rfl en))) ?_
    refine tri_seq ?_
    refine tri_seq ?_
    refine tri_reg mixed hcx ?_ _ _
    refine fa rfl fMag 1 ?_
    refine ld rfl rfl tyLs rfl ?_
    refine fa rfl fMag 1 ?_
    refine ld rfl rfl tyLs rfl ?_
    refine ca rfl (h := nat_Cmp (by omega) (by omega)) (hn := ?_)
    refine clt rfl rfl rfl ?_
    refine ⟨by kernel_rfl, ?_⟩
    refine nx (sl 2 rfl (sl 3 rfl (sl 4 rfl (sl 25 rfl sn)))) (el 10 rfl (el 11 rfl (el 12 rfl en))) ?_
    refine tri_if rfl (fun hc => ?_) (fun hc => ?_)
    · have hge := sgnc_neg hc; have hlD : lim (M1 - M0) ≤ l := Nat.le_trans (lim_mono (Nat.sub_le _ _)) hB1
      refine tri_reg mixed hcx ?_ _ _
      refine ld rfl rfl tyZ rfl ?_
      refine ld rfl rfl tyZ rfl ?_
      refine sts rfl rfl rfl tyZ rfl ?_
      refine sts rfl rfl rfl tyZ rfl ?_
      refine ⟨by kernel_rfl, ?_⟩
      refine nx (sl 2 rfl (sl 3 rfl (sl 4 rfl sn))) (el 10 rfl (el 11 rfl (el 12 rfl en))) ?_
      refine tri_seq ?_
      refine tri_reg mixed hcx ?_ _ _
      refine fa rfl fMag 1 ?_
      refine ld rfl rfl tyLs rfl ?_
      refine fa rfl fMag 1 ?_
      refine ld rfl rfl tyLs rfl ?_
      refine ca rfl (h := nat_Sub (by omega) (by omega) (by omega)) (hn := ?_)
      refine mv rfl ?_
      refine ex rfl rfl ?_
      refine ex rfl rfl ?_
      refine asg rfl ?_
      refine asg rfl ?_
      refine ⟨by kernel_rfl, ?_⟩
      refine nx (sl 2 rfl (sl 4 rfl (sl 5 rfl sn))) (el 10 rfl (el 11 rfl (el 12 rfl en))) ?_
      refine tri_seq ?_
      refine tri_reg mixed hcx ?_ _ _
      refine fa rfl fNeg 0 ?_
      refine ld rfl rfl tyB rfl ?_
      refine mv rfl ?_
      refine ca rfl (h := zi_made (by omega)) (hn := ?_)
      refine st rfl rfl rfl tyZ rfl ?_
      refine ⟨by kernel_rfl, ?_⟩
      refine nx (sl 4 rfl sn) (el 10 rfl (el 11 rfl (el 12 rfl en))) ?_
      refine tri_ret ?_
      repeat (first | refine pn_thenr ?_ | refine pn_blkr ?_)
      exact ret1 hcx rfl (rv_cell (c' := cx) (n := 0) rfl rfl tyZ rfl) ((z_cast ((intv_diff (fun h => hs h.symm) (by omega)).trans (Int.add_comm _ _)) (Nat.le_refl _)).trans (z_as hzA)) en
    · have hge := sgnc_nlt hc; have hlD : lim (M0 - M1) ≤ k := Nat.le_trans (lim_mono (Nat.sub_le _ _)) hB0
      refine tri_skip ?_
      refine nx (sl 2 rfl (sl 3 rfl (sl 4 rfl sn))) (el 10 rfl (el 11 rfl (el 12 rfl en))) ?_
      refine tri_seq ?_
      refine tri_reg mixed hcx ?_ _ _
      refine fa rfl fMag 1 ?_
      refine ld rfl rfl tyLs rfl ?_
      refine fa rfl fMag 1 ?_
      refine ld rfl rfl tyLs rfl ?_
      refine ca rfl (h := nat_Sub (by omega) (by omega) (by omega)) (hn := ?_)
      refine mv rfl ?_
      refine ex rfl rfl ?_
      refine ex rfl rfl ?_
      refine asg rfl ?_
      refine asg rfl ?_
      refine ⟨by kernel_rfl, ?_⟩
      refine nx (sl 2 rfl (sl 4 rfl (sl 5 rfl sn))) (el 10 rfl (el 11 rfl (el 12 rfl en))) ?_
      refine tri_seq ?_
      refine tri_reg mixed hcx ?_ _ _
      refine fa rfl fNeg 0 ?_
      refine ld rfl rfl tyB rfl ?_
      refine mv rfl ?_
      refine ca rfl (h := zi_made (by omega)) (hn := ?_)
      refine st rfl rfl rfl tyZ rfl ?_
      refine ⟨by kernel_rfl, ?_⟩
      refine nx (sl 4 rfl sn) (el 10 rfl (el 11 rfl (el 12 rfl en))) ?_
      refine tri_ret ?_
      repeat (first | refine pn_thenr ?_ | refine pn_blkr ?_)
      exact ret1 hcx rfl (rv_cell (c' := cx) (n := 0) rfl rfl tyZ rfl) ((z_cast (intv_diff hs hge) (Nat.le_refl _)).trans (z_as hzA)) en

theorem zi_Sub {a b : Int} {k l : Nat} (hk : k ≤ 4398046511104) (hl : l ≤ 4398046511104) : Fn Tryz.prog 148 [T.Zi a k, T.Zi b l] [] [] [] (T.Z (a - b) (k + l + 1)) := by
  refine fn_of Tryz.func148 rfl (by show 2 ≤ 9; decide) fun cx hcx => ?_
  refine tri_sub (sl 0 rfl (sl 1 rfl sn)) en ?_
  refine tri_seq ?_
  refine tri_reg mixed hcx ?_ _ _
  refine bx 10 rfl ?_
  refine bx 11 rfl ?_
  refine nw 12 zeZ ?_
  refine ⟨by kernel_rfl, ?_⟩
  refine nx (sl 2 rfl (sl 3 rfl (sl 4 rfl sn))) (el 10 rfl (el 11 rfl (el 12 rfl en))) ?_
  refine tri_seq ?_
  refine tri_reg mixed hcx ?_ _ _
  refine ld rfl rfl tyZ rfl ?_
  refine ld rfl rfl tyZ rfl ?_
  refine ca rfl (h := zi_Neg (by omega)) (hn := ?_)
  refine ca rfl (h := zi_Add (by omega) (by omega)) (hn := ?_)
  refine st rfl rfl rfl tyZ rfl ?_
  refine ⟨by kernel_rfl, ?_⟩
  refine nx (sl 4 rfl sn) (el 10 rfl (el 11 rfl (el 12 rfl en))) ?_
  refine tri_ret ?_
  repeat (first | refine pn_thenr ?_ | refine pn_blkr ?_)
  exact ret1 hcx rfl (rv_cell (c' := cx) (n := 0) rfl rfl tyZ rfl) (z_cast Int.sub_eq_add_neg.symm (Nat.le_refl _)) en

theorem zi_Mul {a b : Int} {k l : Nat} (hk : k ≤ 8796093022208) (hl : l ≤ 8796093022208) : Fn Tryz.prog 143 [T.Zi a k, T.Zi b l] [] [] [] (T.Z (a * b) (k + l)) := by
  refine fn_of Tryz.func143 rfl (by show 2 ≤ 16; decide) fun cx hcx => ?_
  refine tri_sub (sl 0 rfl (sl 1 rfl sn)) en ?_
  refine tri_zi 0 rfl fun s0 M0 x0 hl0 hv0 hb0 hz0 hq0 => ?_
  subst hz0; have hB0 := lim_val hl0 hv0 hb0
  refine tri_zi 1 rfl fun s1 M1 x1 hl1 hv1 hb1 hz1 hq1 => ?_
  subst hz1; have hB1 := lim_val hl1 hv1 hb1
  have hzA := zl_mul (z_bd (s := s0) hl0 hv0 hb0) (z_bd (s := s1) hl1 hv1 hb1)
  have hlA := Nat.le_trans (lim_mul M0 M1) (Nat.add_le_add hB0 hB1)
  refine tri_seq ?_
  refine tri_reg mixed hcx ?_ _ _
  refine bxs 10 rfl ?_
  refine bxs 11 rfl ?_
  refine nw 12 zeZ ?_
  refine ⟨by kernel_rfl, ?_⟩
  refine nx (sl 2 rfl (sl 3 rfl (sl 4 rfl sn))) (el 10 rfl (el 11 rfl (el 12 rfl en))) ?_
  refine tri_seq ?_
  refine tri_reg mixed hcx ?_ _ _
  refine fa rfl fNeg 0 ?_
  refine ld rfl rfl tyB rfl ?_
  refine fa rfl fNeg 0 ?_
  refine ld rfl rfl tyB rfl ?_
  refine neb rfl rfl rfl ?_
  refine fa rfl fMag 1 ?_
  refine ld rfl rfl tyLs rfl ?_
  refine fa rfl fMag 1 ?_
  refine ld rfl rfl tyLs rfl ?_
  refine ca rfl (h := nat_Mul (by omega) (by omega)) (hn := ?_)
  refine ca rfl (h := zi_made (by omega)) (hn := ?_)
  refine st rfl rfl rfl tyZ rfl ?_
  refine ⟨by kernel_rfl, ?_⟩
  refine nx (sl 4 rfl sn) (el 10 rfl (el 11 rfl (el 12 rfl en))) ?_
  refine tri_ret ?_
  repeat (first | refine pn_thenr ?_ | refine pn_blkr ?_)
  exact ret1 hcx rfl (rv_cell (c' := cx) (n := 0) rfl rfl tyZ rfl) ((z_cast (intv_mul _ _ _ _).symm (Nat.le_refl _)).trans (z_as hzA)) en

theorem zi_Gcd {a b : Int} {k l : Nat} (hk : k ≤ 1099511627776) (hl : l ≤ 1099511627776) : Fn Tryz.prog 178 [T.Zi a k, T.Zi b l] [] [] [] (T.Z ((Int.gcd a b : Nat) : Int) (max k l)) := by
  refine fn_of Tryz.func178 rfl (by show 2 ≤ 11; decide) fun cx hcx => ?_
  refine tri_sub (sl 0 rfl (sl 1 rfl sn)) en ?_
  refine tri_zi 0 rfl fun s0 M0 x0 hl0 hv0 hb0 hz0 hq0 => ?_
  subst hz0; have hB0 := lim_val hl0 hv0 hb0
  refine tri_zi 1 rfl fun s1 M1 x1 hl1 hv1 hb1 hz1 hq1 => ?_
  subst hz1; have hB1 := lim_val hl1 hv1 hb1
  have hlA := lim_gcd hB0 hB1; have hmx : max k l ≤ 1099511627776 := Nat.max_le.2 ⟨hk, hl⟩
  refine tri_seq ?_
  refine tri_reg mixed hcx ?_ _ _
  refine bxs 10 rfl ?_
  refine bxs 11 rfl ?_
  refine nw 12 zeZ ?_
  refine ⟨by kernel_rfl, ?_⟩
  refine nx (sl 2 rfl (sl 3 rfl (sl 4 rfl sn))) (el 10 rfl (el 11 rfl (el 12 rfl en))) ?_
  refine tri_seq ?_
  refine tri_reg mixed hcx ?_ _ _
  refine fa rfl fMag 1 ?_
  refine ld rfl rfl tyLs rfl ?_
  refine fa rfl fMag 1 ?_
  refine ld rfl rfl tyLs rfl ?_
  refine ca rfl (h := nat_Gcd (by omega) (by omega)) (hn := ?_)
  refine ca rfl (h := zi_made (by omega)) (hn := ?_)
  refine st rfl rfl rfl tyZ rfl ?_
  refine ⟨by kernel_rfl, ?_⟩
  refine nx (sl 4 rfl sn) (el 10 rfl (el 11 rfl (el 12 rfl en))) ?_
  refine tri_ret ?_
  repeat (first | refine pn_thenr ?_ | refine pn_blkr ?_)
  exact ret1 hcx rfl (rv_cell (c' := cx) (n := 0) rfl rfl tyZ rfl) ((z_cast (by rw [Int.gcd, intv_natAbs, intv_natAbs]; rfl) (Nat.le_refl _)).trans (z_as (by rw [Int.gcd, intv_natAbs, intv_natAbs]; exact hlA))) en

theorem cmp_mid {s t : Bool} {M N : Nat} (h1 : ¬ sg (intv s M) < sg (intv t N)) (h2 : ¬ sg (intv t N) < sg (intv s M)) : sg (intv s M) * sgnc (M : Int) N = sgnc (intv s M) (intv t N) := by
  have := cmp_same h1 h2
  rwa [intv_natAbs, intv_natAbs] at this

theorem zi_Compare {a b : Int} {k l : Nat} (hk : k ≤ 17592186044416) (hl : l ≤ 17592186044416) : Fn Tryz.prog 101 [T.Zi a k, T.Zi b l] [] [] [] (T.c (.int .i64 (sgnc a b))) := by
  refine fn_of Tryz.func101 rfl (by show 2 ≤ 26; decide) fun cx hcx => ?_
  refine tri_sub (sl 0 rfl (sl 1 rfl sn)) en ?_
  refine tri_zi 0 rfl fun s0 M0 x0 hl0 hv0 hb0 hz0 hq0 => ?_
  subst hz0; have hB0 := lim_val hl0 hv0 hb0
  refine tri_zi 1 rfl fun s1 M1 x1 hl1 hv1 hb1 hz1 hq1 => ?_
  subst hz1; have hB1 := lim_val hl1 hv1 hb1
  have hg0 := sg_bd (intv s0 M0); have hg1 := sg_bd (intv s1 M1); have hg2 := sgnc_bd (M0 : Int) M1
  refine tri_seq ?_
  refine tri_reg mixed hcx ?_ _ _
  refine bxs 10 rfl ?_
  refine bxs 11 rfl ?_
  refine asg rfl ?_
  refine ⟨by kernel_rfl, ?_⟩
  refine nx (sl 2 rfl (sl 3 rfl sn)) (el 10 rfl (el 11 rfl en)) ?_
  refine tri_seq ?_
  refine tri_reg mixed hcx ?_ _ _
  refine ld rfl rfl tyZ rfl ?_
  refine ca rfl (h := zi_Sign (by omega)) (hn := ?_)
  refine ld rfl rfl tyZ rfl ?_
  refine ca rfl (h := zi_Sign (by omega)) (hn := ?_)
  refine asg rfl ?_
  refine asg rfl ?_
  refine ⟨by kernel_rfl, ?_⟩
  refine nx (sl 2 rfl (sl 3 rfl (sl 5 rfl (sl 6 rfl sn)))) (el 10 rfl (el 11 rfl en)) ?_
  refine tri_seq ?_
  refine tri_block ?_
  refine tri_seq ?_
  refine tri_reg mixed hcx ?_ _ _
  refine mv rfl ?_
  refine mv rfl ?_
  refine clt rfl rfl rfl ?_
  refine asg rfl ?_
  refine ⟨by kernel_rfl, ?_⟩
  refine nx (sl 2 rfl (sl 3 rfl (sl 5 rfl (sl 6 rfl (sl 11 rfl sn))))) (el 10 rfl (el 11 rfl en)) ?_
  refine tri_if rfl (fun hc => ?_) (fun hc => ?_)
  · refine tri_seq ?_
    refine tri_reg mixed hcx ?_ _ _
    refine asg rfl ?_
    refine ⟨by kernel_rfl, ?_⟩
    refine nx (sl 4 rfl sn) (el 10 rfl (el 11 rfl en)) ?_
    refine tri_ret ?_
    repeat (first | refine pn_thenr ?_ | refine pn_blkr ?_)
    exact ret1 hcx rfl (rv_tmp rfl) (ci (Nml.cmp_lt hc).symm) en
  · refine tri_seq ?_
    refine tri_reg mixed hcx ?_ _ _
    refine mv rfl ?_
    refine mv rfl ?_
    refine cgt rfl rfl rfl ?_
    refine asg rfl ?_
    refine ⟨by kernel_rfl, ?_⟩
    refine nx (sl 2 rfl (sl 3 rfl (sl 5 rfl (sl 15 rfl sn)))) (el 10 rfl (el 11 rfl en)) ?_
    refine tri_if rfl (fun hd => ?_) (fun hd => ?_)
    · refine tri_seq ?_
      refine tri_reg mixed hcx ?_ _ _
      refine asg rfl ?_
      refine ⟨by kernel_rfl, ?_⟩
      refine nx (sl 4 rfl sn) (el 10 rfl (el 11 rfl en)) ?_
      refine tri_ret ?_
      repeat (first | refine pn_thenr ?_ | refine pn_blkr ?_)
      exact ret1 hcx rfl (rv_tmp rfl) (ci (cmp_gt hd).symm) en
    · refine tri_skip ?_
      refine pn_blk ?_
      refine nx (sl 2 rfl (sl 3 rfl (sl 5 rfl sn))) (el 10 rfl (el 11 rfl en)) ?_
      refine tri_seq ?_
      have hm := cmp_mid hc hd; have hg3 := sgnc_bd (intv s0 M0) (intv s1 M1)
      refine tri_reg mixed hcx ?_ _ _
      refine mv rfl ?_
      refine fa rfl fMag 1 ?_
      refine ld rfl rfl tyLs rfl ?_
      refine fa rfl fMag 1 ?_
      refine ld rfl rfl tyLs rfl ?_
      refine ca rfl (h := nat_Cmp (by omega) (by omega)) (hn := ?_)
      refine ml (sgnc (intv s0 M0) (intv s1 M1)) rfl rfl rfl ⟨hm, by omega, by omega⟩ ?_
      refine asg rfl ?_
      refine ⟨by kernel_rfl, ?_⟩
      refine nx (sl 4 rfl sn) (el 10 rfl (el 11 rfl en)) ?_
      refine tri_ret ?_
      repeat (first | refine pn_thenr ?_ | refine pn_blkr ?_)
      exact ret1 hcx rfl (rv_tmp rfl) (.refl _) en

theorem two_limbs {u : Int} {N : Nat} (h : u = N) (h1 : u < 18446744073709551616) : Lim [u % 4294967296, u / 4294967296] ∧ val [u % 4294967296, u / 4294967296] = N :=
  ⟨Lim.cons (by omega) (by omega) (Lim.one (by omega) (by omega)), by rw [val_cons, val_one]; omega⟩
theorem intv_abs_neg {n : Int} (h : n < 0) : intv true n.natAbs = n := by show -((n.natAbs : Nat) : Int) = n; omega
theorem intv_abs_pos {n : Int} (h : ¬ n < 0) : intv false n.natAbs = n := by show ((n.natAbs : Nat) : Int) = n; omega
theorem zi_Of {n : Int} (h0 : -9223372036854775808 ≤ n) (h1 : n < 9223372036854775808) : Fn Tryz.prog 115 [T.c (.int .i64 n)] [] [] [] (T.Z n 2) := by
  refine fn_of Tryz.func115 rfl (by show 1 ≤ 19; decide) fun cx hcx => ?_
  refine tri_sub (sl 0 rfl sn) en ?_
  refine tri_seq ?_
  refine tri_reg mixed hcx ?_ _ _
  refine nw 10 zeZ ?_
  refine ⟨by kernel_rfl, ?_⟩
  refine nx (sl 0 rfl (sl 2 rfl sn)) (el 10 rfl en) ?_
  refine tri_seq ?_
  refine tri_reg mixed hcx ?_ _ _
  refine mv rfl ?_
  refine cvw (n % 18446744073709551616) rfl cvI64U64 rfl ?_
  refine asg rfl ?_
  refine ⟨by kernel_rfl, ?_⟩
  refine nx (sl 0 rfl (sl 2 rfl (sl 3 rfl sn))) (el 10 rfl en) ?_
  refine tri_seq ?_
  refine tri_seq ?_
  refine tri_reg mixed hcx ?_ _ _
  refine mv rfl ?_
  refine clt rfl rfl rfl ?_
  refine ⟨by kernel_rfl, ?_⟩
  refine nx (sl 0 rfl (sl 2 rfl (sl 3 rfl (sl 7 rfl sn)))) (el 10 rfl en) ?_
  refine tri_if rfl (fun hc => ?_) (fun hc => ?_)
  · refine tri_reg mixed hcx ?_ _ _
    refine mv rfl ?_
    refine ngm (-n) rfl (by omega) ?_
    refine asg rfl ?_
    refine ⟨by kernel_rfl, ?_⟩
    refine nx (sl 0 rfl (sl 2 rfl (sl 3 rfl sn))) (el 10 rfl en) ?_
    refine tri_seq ?_
    obtain ⟨hL1, hL2⟩ := two_limbs (u := -n) (N := n.natAbs) (by omega) (by omega); have hL3 : [-n % 4294967296, -n / 4294967296].length ≤ 2 := Nat.le_refl _
    refine tri_reg mixed hcx ?_ _ _
    refine mv rfl ?_
    refine clt rfl rfl (decide_eq_true (by omega)) ?_
    refine mv rfl ?_
    refine cvm _ rfl cvU64U32 rfl ?_
    refine mv rfl ?_
    refine shR (s := 32) (-n / 4294967296) rfl rfl rfl ⟨by omega, by omega, by decide⟩ ?_
    refine cvm (-n / 4294967296) rfl cvU64U32 (by omega) ?_
    refine bl2 rfl rfl slLs zvU32 ?_
    refine ca rfl (h := zi_made (by omega)) (hn := ?_)
    refine st rfl rfl rfl tyZ rfl ?_
    refine ⟨by kernel_rfl, ?_⟩
    refine nx (sl 2 rfl sn) (el 10 rfl en) ?_
    refine tri_ret ?_
    repeat (first | refine pn_thenr ?_ | refine pn_blkr ?_)
    exact ret1 hcx rfl (rv_cell (c' := cx) (n := 0) rfl rfl tyZ rfl) (z_cast (intv_abs_neg hc) (Nat.le_refl _)) en
  · refine tri_as 3 (Z := T.c (.int .u64 n)) rfl (ci (by omega)) ?_
    refine tri_skip ?_
    refine nx (sl 0 rfl (sl 2 rfl (sl 3 rfl sn))) (el 10 rfl en) ?_
    refine tri_seq ?_
    obtain ⟨hL1, hL2⟩ := two_limbs (u := n) (N := n.natAbs) (by omega) (by omega); have hL3 : [n % 4294967296, n / 4294967296].length ≤ 2 := Nat.le_refl _
    refine tri_reg mixed hcx ?_ _ _
    refine mv rfl ?_
    refine clt rfl rfl (decide_eq_false (by omega)) ?_
    refine mv rfl ?_
    refine cvm _ rfl cvU64U32 rfl ?_
    refine mv rfl ?_
    refine shR (s := 32) (n / 4294967296) rfl rfl rfl ⟨by omega, by omega, by decide⟩ ?_
    refine cvm (n / 4294967296) rfl cvU64U32 (by omega) ?_
    refine bl2 rfl rfl slLs zvU32 ?_
    refine ca rfl (h := zi_made (by omega)) (hn := ?_)
    refine st rfl rfl rfl tyZ rfl ?_
    refine ⟨by kernel_rfl, ?_⟩
    refine nx (sl 2 rfl sn) (el 10 rfl en) ?_
    refine tri_ret ?_
    repeat (first | refine pn_thenr ?_ | refine pn_blkr ?_)
    exact ret1 hcx rfl (rv_cell (c' := cx) (n := 0) rfl rfl tyZ rfl) (z_cast (intv_abs_pos hc) (Nat.le_refl _)) en

theorem fl_bd {s1 s2 : Bool} {M N : Nat} (hN : 0 < N) (h : intv s1 (M % N) ≠ 0 ∧ sg (intv s1 (M % N)) ≠ sg (intv s2 N)) : (intv s1 (M % N) + intv s2 N).natAbs ≤ N := by
  have l := Nat.mod_lt M hN
  rw [sg_intv, sg_intv] at h
  generalize M % N = r at *
  cases s1 <;> cases s2 <;> simp [intv] at h ⊢ <;> omega
theorem intv_ne {s : Bool} {M : Nat} (h : intv s M ≠ 0) : 0 < M := Nat.pos_of_ne_zero fun e => h (by subst e; exact intv_zero s)

theorem zi_Floor {a b : Int} {k l : Nat} (hb : b ≠ 0) (hk : k ≤ 1099511627776) (hl : l ≤ 1099511627776) : Fn Tryz.prog 146 [T.Zi a k, T.Zi b l] [] [] [] (T.tup [T.Z (Int.fdiv a b) (k + 3), T.Z (Int.fmod a b) l, T.c (.int .i64 0)]) := by
  refine fn_of Tryz.func146 rfl (by show 2 ≤ 54; decide) fun cx hcx => ?_
  refine tri_sub (sl 0 rfl (sl 1 rfl sn)) en ?_
  refine tri_zi 0 rfl fun s0 M0 x0 hl0 hv0 hb0 hz0 hq0 => ?_
  subst hz0; have hB0 := lim_val hl0 hv0 hb0
  refine tri_zi 1 rfl fun s1 M1 x1 hl1 hv1 hb1 hz1 hq1 => ?_
  subst hz1; have hB1 := lim_val hl1 hv1 hb1
  have hM1 := intv_ne hb
  have hlq : lim (M0 / M1) ≤ k := Nat.le_trans (lim_mono (Nat.div_le_self _ _)) hB0; have hlr : lim (M0 % M1) ≤ l := Nat.le_trans (lim_mono (Nat.le_of_lt (Nat.mod_lt _ hM1))) hB1
  refine tri_seq ?_
  refine tri_reg mixed hcx ?_ _ _
  refine bxs 10 rfl ?_
  refine bxs 11 rfl ?_
  refine nw 12 zeZ ?_
  refine nw 13 zeZ ?_
  refine asg rfl ?_
  refine ⟨by kernel_rfl, ?_⟩
  refine nx (sl 2 rfl (sl 3 rfl (sl 4 rfl (sl 5 rfl sn)))) (el 10 rfl (el 11 rfl (el 12 rfl (el 13 rfl en)))) ?_
  refine tri_seq ?_
  refine tri_reg mixed hcx ?_ _ _
  refine fa rfl fMag 1 ?_
  refine ld rfl rfl tyLs rfl ?_
  refine fa rfl fMag 1 ?_
  refine ld rfl rfl tyLs rfl ?_
  refine ca rfl (h := nat_Div (by omega) (by omega) (by omega)) (hn := ?_)
  refine mv rfl ?_
  refine ex rfl rfl ?_
  refine ex rfl rfl ?_
  refine ex rfl rfl ?_
  refine asg rfl ?_
  refine asg rfl ?_
  refine asg rfl ?_
  refine ⟨by kernel_rfl, ?_⟩
  refine nx (sl 2 rfl (sl 3 rfl (sl 4 rfl (sl 5 rfl (sl 7 rfl (sl 8 rfl (sl 9 rfl sn))))))) (el 10 rfl (el 11 rfl (el 12 rfl (el 13 rfl en)))) ?_
  refine tri_seq ?_
  refine tri_seq ?_
  refine tri_reg mixed hcx ?_ _ _
  refine mv rfl ?_
  refine cne rfl rfl (decide_eq_false (by omega)) ?_
  refine ⟨by kernel_rfl, ?_⟩
  refine nx (sl 2 rfl (sl 3 rfl (sl 4 rfl (sl 5 rfl (sl 7 rfl (sl 8 rfl (sl 22 rfl sn))))))) (el 10 rfl (el 11 rfl (el 12 rfl (el 13 rfl en)))) ?_
  refine tri_false rfl rfl ?_
  refine tri_skip ?_
  refine nx (sl 2 rfl (sl 3 rfl (sl 4 rfl (sl 5 rfl (sl 7 rfl (sl 8 rfl sn)))))) (el 10 rfl (el 11 rfl (el 12 rfl (el 13 rfl en)))) ?_
  refine tri_seq ?_
  refine tri_reg mixed hcx ?_ _ _
  refine fa rfl fNeg 0 ?_
  refine ld rfl rfl tyB rfl ?_
  refine fa rfl fNeg 0 ?_
  refine ld rfl rfl tyB rfl ?_
  refine neb rfl rfl rfl ?_
  refine mv rfl ?_
  refine ca rfl (h := zi_made (by omega)) (hn := ?_)
  refine fa rfl fNeg 0 ?_
  refine ld rfl rfl tyB rfl ?_
  refine mv rfl ?_
  refine ca rfl (h := zi_made (by omega)) (hn := ?_)
  refine nw 421 zeZ ?_
  refine nw 422 zeZ ?_
  refine st rfl rfl rfl tyZ rfl ?_
  refine st rfl rfl rfl tyZ rfl ?_
  refine ⟨by kernel_rfl, ?_⟩
  refine nx (sl 3 rfl (sl 4 rfl (sl 5 rfl (sl 10 rfl (sl 11 rfl sn))))) (el 10 rfl (el 11 rfl (el 12 rfl (el 13 rfl (el 421 rfl (el 422 rfl en)))))) ?_
  refine tri_seq ?_
  refine tri_seq ?_
  by_cases h0 : sg (intv s0 (M0 % M1)) = 0
  · have hf := floor_no s0 s1 M0 M1 hM1 (fun h => h.1 (sg_eq_zero.1 h0))
    refine tri_reg mixed hcx ?_ _ _
    refine ld rfl rfl tyZ rfl ?_
    refine ca rfl (h := zi_Sign (by omega)) (hn := ?_)
    refine cne rfl rfl (decide_eq_false (by omega)) ?_
    refine mv rfl ?_
    refine j_off rfl rfl rfl rfl ?_
    refine j_off rfl rfl rfl rfl ?_
    refine j_off rfl rfl rfl rfl ?_
    refine j_off rfl rfl rfl rfl ?_
    refine j_off rfl rfl rfl rfl ?_
    refine pk rfl rfl ?_
    refine ⟨by kernel_rfl, ?_⟩
    refine nx (sl 3 rfl (sl 4 rfl (sl 5 rfl (sl 10 rfl (sl 11 rfl (sl 45 rfl sn)))))) (el 10 rfl (el 11 rfl (el 12 rfl (el 13 rfl (el 421 rfl (el 422 rfl en)))))) ?_
    refine tri_false rfl rfl ?_
    refine tri_skip ?_
    refine nx (sl 4 rfl (sl 5 rfl (sl 10 rfl (sl 11 rfl sn)))) (el 10 rfl (el 11 rfl (el 12 rfl (el 13 rfl (el 421 rfl (el 422 rfl en)))))) ?_
    refine tri_seq ?_
    refine tri_reg mixed hcx ?_ _ _
    refine ld rfl rfl tyZ rfl ?_
    refine ld rfl rfl tyZ rfl ?_
    refine st rfl rfl rfl tyZ rfl ?_
    refine st rfl rfl rfl tyZ rfl ?_
    refine asg rfl ?_
    refine ⟨by kernel_rfl, ?_⟩
    refine nx (sl 4 rfl (sl 5 rfl (sl 6 rfl sn))) (el 10 rfl (el 11 rfl (el 12 rfl (el 13 rfl (el 421 rfl (el 422 rfl en)))))) ?_
    refine tri_ret ?_
    repeat (first | refine pn_thenr ?_ | refine pn_blkr ?_)
    exact ret3 hcx rfl (rv_cell (c' := cx) (n := 0) rfl rfl tyZ rfl) (rv_cell (c' := cx) (n := 0) rfl rfl tyZ rfl) (rv_tmp rfl) (tup_le ⟨z_cast hf.1.symm (by omega), z_cast hf.2.symm hlr, .refl _, trivial⟩) en
  · refine tri_reg mixed hcx ?_ _ _
    refine ld rfl rfl tyZ rfl ?_
    refine ca rfl (h := zi_Sign (by omega)) (hn := ?_)
    refine cne rfl rfl (decide_eq_true (by omega)) ?_
    refine mv rfl ?_
    refine ld rfl rfl tyZ rfl ?_ (hg := gd1)
    refine ca rfl (h := zi_Sign (by omega)) (hn := ?_) (hg := gd1)
    refine ld rfl rfl tyZ rfl ?_ (hg := gd1)
    refine ca rfl (h := zi_Sign (by omega)) (hn := ?_) (hg := gd1)
    refine cne rfl rfl rfl ?_ (hg := gd1)
    refine pk rfl rfl ?_
    refine ⟨by kernel_rfl, ?_⟩
    refine nx (sl 3 rfl (sl 4 rfl (sl 5 rfl (sl 10 rfl (sl 11 rfl (sl 45 rfl sn)))))) (el 10 rfl (el 11 rfl (el 12 rfl (el 13 rfl (el 421 rfl (el 422 rfl en)))))) ?_
    refine tri_if rfl (fun hc => ?_) (fun hc => ?_)
    · have hf := floor_yes s0 s1 M0 M1 hM1 ⟨fun h => h0 (sg_eq_zero.2 h), hc⟩; have hfb := fl_bd hM1 ⟨fun h => h0 (sg_eq_zero.2 h), hc⟩
      refine tri_reg mixed hcx ?_ _ _
      refine ld rfl rfl tyZ rfl ?_
      refine ca rfl (h := zi_Of (by omega) (by omega)) (hn := ?_)
      refine ca rfl (h := zi_Sub (by omega) (by omega)) (hn := ?_)
      refine ld rfl rfl tyZ rfl ?_
      refine ld rfl rfl tyZ rfl ?_
      refine ca rfl (h := zi_Add (by omega) (by omega)) (hn := ?_)
      refine st rfl rfl rfl tyZ rfl ?_
      refine st rfl rfl rfl tyZ rfl ?_
      refine ⟨by kernel_rfl, ?_⟩
      refine nx (sl 4 rfl (sl 5 rfl (sl 10 rfl (sl 11 rfl sn)))) (el 10 rfl (el 11 rfl (el 12 rfl (el 13 rfl (el 421 rfl (el 422 rfl en)))))) ?_
      refine tri_seq ?_
      refine tri_reg mixed hcx ?_ _ _
      refine ld rfl rfl tyZ rfl ?_
      refine ld rfl rfl tyZ rfl ?_
      refine st rfl rfl rfl tyZ rfl ?_
      refine st rfl rfl rfl tyZ rfl ?_
      refine asg rfl ?_
      refine ⟨by kernel_rfl, ?_⟩
      refine nx (sl 4 rfl (sl 5 rfl (sl 6 rfl sn))) (el 10 rfl (el 11 rfl (el 12 rfl (el 13 rfl (el 421 rfl (el 422 rfl en)))))) ?_
      refine tri_ret ?_
      repeat (first | refine pn_thenr ?_ | refine pn_blkr ?_)
      exact ret3 hcx rfl (rv_cell (c' := cx) (n := 0) rfl rfl tyZ rfl) (rv_cell (c' := cx) (n := 0) rfl rfl tyZ rfl) (rv_tmp rfl) (tup_le ⟨z_cast hf.1.symm (by omega), (z_cast hf.2.symm (Nat.le_refl _)).trans (z_as (by rw [hf.2]; exact Nat.le_trans (lim_mono hfb) hB1)), .refl _, trivial⟩) en
    · have hf := floor_no s0 s1 M0 M1 hM1 (fun h => hc h.2)
      refine tri_skip ?_
      refine nx (sl 4 rfl (sl 5 rfl (sl 10 rfl (sl 11 rfl sn)))) (el 10 rfl (el 11 rfl (el 12 rfl (el 13 rfl (el 421 rfl (el 422 rfl en)))))) ?_
      refine tri_seq ?_
      refine tri_reg mixed hcx ?_ _ _
      refine ld rfl rfl tyZ rfl ?_
      refine ld rfl rfl tyZ rfl ?_
      refine st rfl rfl rfl tyZ rfl ?_
      refine st rfl rfl rfl tyZ rfl ?_
      refine asg rfl ?_
      refine ⟨by kernel_rfl, ?_⟩
      refine nx (sl 4 rfl (sl 5 rfl (sl 6 rfl sn))) (el 10 rfl (el 11 rfl (el 12 rfl (el 13 rfl (el 421 rfl (el 422 rfl en)))))) ?_
      refine tri_ret ?_
      repeat (first | refine pn_thenr ?_ | refine pn_blkr ?_)
      exact ret3 hcx rfl (rv_cell (c' := cx) (n := 0) rfl rfl tyZ rfl) (rv_cell (c' := cx) (n := 0) rfl rfl tyZ rfl) (rv_tmp rfl) (tup_le ⟨z_cast hf.1.symm (by omega), z_cast hf.2.symm hlr, .refl _, trivial⟩) en

theorem exact_div {a b : Int} (hd : b ∣ a) : Int.fdiv a b = a / b ∧ Int.fmod a b = 0 := ⟨Int.fdiv_eq_ediv_of_dvd hd, Int.fmod_eq_zero_of_dvd hd⟩

theorem zi_Exact {a b : Int} {k l : Nat} (hb : b ≠ 0) (hd : b ∣ a) (hk : k ≤ 1099511627776) (hl : l ≤ 1099511627776) : Fn Tryz.prog 179 [T.Zi a k, T.Zi b l] [] [] [] (T.tup [T.Z (a / b) k, T.c (.int .i64 0)]) := by
  refine fn_of Tryz.func179 rfl (by show 2 ≤ 27; decide) fun cx hcx => ?_
  refine tri_sub (sl 0 rfl (sl 1 rfl sn)) en ?_
  refine tri_zi 0 rfl fun s0 M0 x0 hl0 hv0 hb0 hz0 hq0 => ?_
  subst hz0; have hB0 := lim_val hl0 hv0 hb0
  refine tri_zi 1 rfl fun s1 M1 x1 hl1 hv1 hb1 hz1 hq1 => ?_
  subst hz1; have hB1 := lim_val hl1 hv1 hb1
  have he := exact_div hd; have hzz := zl_div (intv s1 M1) (z_bd (s := s0) hl0 hv0 hb0)
  refine tri_seq ?_
  refine tri_reg mixed hcx ?_ _ _
  refine bxs 10 rfl ?_
  refine bxs 11 rfl ?_
  refine nw 12 zeZ ?_
  refine asg rfl ?_
  refine ⟨by kernel_rfl, ?_⟩
  refine nx (sl 2 rfl (sl 3 rfl (sl 4 rfl sn))) (el 10 rfl (el 11 rfl (el 12 rfl en))) ?_
  refine tri_seq ?_
  refine tri_reg mixed hcx ?_ _ _
  refine ld rfl rfl tyZ rfl ?_
  refine ld rfl rfl tyZ rfl ?_
  refine ca rfl (h := zi_Floor (by assumption) (by omega) (by omega)) (hn := ?_)
  refine mv rfl ?_
  refine ex rfl rfl ?_
  refine ex rfl rfl ?_
  refine ex rfl rfl ?_
  refine nw 117 zeZ ?_
  refine nw 118 zeZ ?_
  refine st rfl rfl rfl tyZ rfl ?_
  refine st rfl rfl rfl tyZ rfl ?_
  refine asg rfl ?_
  refine ⟨by kernel_rfl, ?_⟩
  refine nx (sl 4 rfl (sl 6 rfl (sl 7 rfl (sl 8 rfl sn)))) (el 10 rfl (el 11 rfl (el 12 rfl (el 117 rfl (el 118 rfl en))))) ?_
  refine tri_seq ?_
  refine tri_block ?_
  refine tri_seq ?_
  refine tri_reg mixed hcx ?_ _ _
  refine mv rfl ?_
  refine cne rfl rfl (decide_eq_false (by omega)) ?_
  refine asg rfl ?_
  refine ⟨by kernel_rfl, ?_⟩
  refine nx (sl 4 rfl (sl 6 rfl (sl 7 rfl (sl 8 rfl (sl 16 rfl sn))))) (el 10 rfl (el 11 rfl (el 12 rfl (el 117 rfl (el 118 rfl en))))) ?_
  refine tri_false rfl rfl ?_
  refine tri_seq ?_
  refine tri_reg mixed hcx ?_ _ _
  refine ld rfl rfl tyZ rfl ?_
  refine ca rfl (h := zi_Sign (by omega)) (hn := ?_)
  refine cne rfl rfl (decide_eq_false (by rw [he.2, sg_zero]; decide)) ?_
  refine asg rfl ?_
  refine ⟨by kernel_rfl, ?_⟩
  refine nx (sl 4 rfl (sl 6 rfl (sl 21 rfl sn))) (el 10 rfl (el 11 rfl (el 12 rfl (el 117 rfl (el 118 rfl en))))) ?_
  refine tri_false rfl rfl ?_
  refine tri_skip ?_
  refine pn_blk ?_
  refine nx (sl 4 rfl (sl 6 rfl sn)) (el 10 rfl (el 11 rfl (el 12 rfl (el 117 rfl (el 118 rfl en))))) ?_
  refine tri_seq ?_
  refine tri_reg mixed hcx ?_ _ _
  refine ld rfl rfl tyZ rfl ?_
  refine st rfl rfl rfl tyZ rfl ?_
  refine asg rfl ?_
  refine ⟨by kernel_rfl, ?_⟩
  refine nx (sl 4 rfl (sl 5 rfl sn)) (el 10 rfl (el 11 rfl (el 12 rfl (el 117 rfl (el 118 rfl en))))) ?_
  refine tri_ret ?_
  repeat (first | refine pn_thenr ?_ | refine pn_blkr ?_)
  exact ret2 hcx rfl (rv_cell (c' := cx) (n := 0) rfl rfl tyZ rfl) (rv_tmp rfl) (tup_le ⟨(z_cast he.1 (Nat.le_refl _)).trans (z_as hzz), .refl _, trivial⟩) en
end Go.Proofs.YtekghdfbhbhigaaGreat.V
