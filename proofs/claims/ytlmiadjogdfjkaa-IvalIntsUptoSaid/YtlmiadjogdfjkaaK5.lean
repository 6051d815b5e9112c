/- Contracts of the document: limbs, division. -/
import Derived.Test.YtlmiadjogdfjkaaK4
set_option linter.unusedVariables false
set_option linter.unusedSimpArgs false
set_option maxRecDepth 100000
namespace Go.Proofs.Ytlmiadjogdfjkaa.V
open Go.RowKit Mt Nml
theorem r01_small {M V k : Nat} (hV0 : 0 < V) (hV : V < 4294967296) (hk : k ≤ 8796093022208) : Fn Try.prog 84 [T.L M k, T.c (.int .u64 (V : Int))] [] [] [] (T.tup [T.l cU (dig (M / V)), T.c (.int .u64 ((M % V : Nat) : Int))]) := by
  refine fn_of Try.func84 rfl (by show 2 ≤ 40; decide) fun cx hcx => ?_
  refine tri_sub (sl 0 rfl (sl 1 rfl sn)) en ?_
  refine tri_ex 0 rfl fun us ⟨hx, hvx, hb⟩ => ?_
  refine tri_seq ?_
  refine tri_reg mixed hcx ?_ _ _
  refine asg rfl ?_
  refine asg rfl ?_
  refine ⟨by kernel_rfl, ?_⟩
  refine nx (sl 0 rfl (sl 1 rfl sn)) en ?_
  refine tri_seq ?_
  refine tri_reg mixed hcx ?_ _ _
  refine mv rfl ?_
  refine ln slLs rfl ?_
  refine mkz (c := cU) (n := us.length) 112 slLs rfl (by omega) (fun u => ⟨zvU32, zrU u⟩) (by decide) ?_
  refine asg rfl ?_
  refine ⟨by kernel_rfl, ?_⟩
  refine nx (sl 0 rfl (sl 1 rfl (sl 6 rfl sn))) (el 112 rfl en) ?_
  refine tri_seq ?_
  refine tri_reg mixed hcx ?_ _ _
  refine asg rfl ?_
  refine ⟨by kernel_rfl, ?_⟩
  refine nx (sl 0 rfl (sl 1 rfl (sl 6 rfl (sl 7 rfl sn)))) (el 112 rfl en) ?_
  refine tri_seq ?_
  refine tri_seq ?_
  refine tri_reg mixed hcx ?_ _ _
  refine mv rfl ?_
  refine ln slLs rfl ?_
  refine sb _ rfl rfl rfl ⟨rfl, by omega, by omega⟩ ?_
  refine asg rfl ?_
  refine ⟨by kernel_rfl, ?_⟩
  refine nx (sl 0 rfl (sl 1 rfl (sl 6 rfl (sl 7 rfl (sl 8 rfl sn))))) (el 112 rfl en) ?_
  refine tri_block ?_
  refine tri_loop (ι := Nat × Nat × List Int) (fun (k, R, qs) => [(0, T.l cU us), (1, T.c (.int .u64 (V : Int))), (6, T.o 112), (7, T.c (.int .u64 (R : Int))), (8, T.c (.int .i64 ((k : Int) - 1)))]) (fun (k, R, qs) => [(112, some (Ent.row cU 77 (qs)))]) (fun (k, R, qs) => k) (fun (k, R, qs) => (k ≤ us.length) ∧ (dvI us qs V k R)) (us.length, 0, List.replicate us.length 0) ⟨Nat.le_refl _, dvI_start us hV0⟩ (sl 0 rfl (sl 1 rfl (sl 6 rfl (sl 7 rfl (sl 8 rfl sn))))) (el 112 rfl en) ?_
  rintro ⟨k, R, qs⟩ ⟨hk, hI⟩
  refine tri_sub (sl 0 rfl (sl 1 rfl (sl 6 rfl (sl 7 rfl (sl 8 rfl sn))))) (el 112 rfl en) ?_
  refine tri_seq ?_
  refine tri_seq ?_
  rcases Nat.eq_zero_or_pos k with h0 | h0
  · subst h0
    refine tri_reg mixed hcx ?_ _ _
    refine mv rfl ?_
    refine cge rfl rfl (decide_eq_false (by omega)) ?_
    refine ⟨by kernel_rfl, ?_⟩
    refine nx (sl 0 rfl (sl 1 rfl (sl 6 rfl (sl 7 rfl (sl 8 rfl (sl 16 rfl sn)))))) (el 112 rfl en) ?_
    refine tri_false rfl rfl ?_
    refine tri_exit ?_
    repeat (first | refine pn_then ?_ | refine pn_oth (by decide) ?_)
    refine pn_ex ?_
    refine nx (sl 6 rfl (sl 7 rfl sn)) (el 112 rfl en) ?_
    refine tri_seq ?_
    have hE := dvI_end hI hvx; have hE1 := hE.1; have hE2 := hI.2.1; have hE3 : qs.length ≤ us.length := Nat.le_of_eq hI.1
    have hR := hE.2; subst hR; have hmod := Nat.mod_lt M hV0
    refine tri_fz 112 rfl ?_
    refine tri_rd 6 112 rfl rfl ?_
    refine tri_reg mixed hcx ?_ _ _
    refine mv rfl ?_
    refine ca rfl (h := r01_Norm (by omega)) (hn := ?_)
    refine mv rfl ?_
    refine asg rfl ?_
    refine asg rfl ?_
    refine ⟨by kernel_rfl, ?_⟩
    refine nx (sl 4 rfl (sl 5 rfl sn)) (el 112 rfl en) ?_
    refine tri_ret ?_
    repeat (first | refine pn_thenr ?_ | refine pn_blkr ?_)
    exact ret2 hcx rfl (rv_tmp rfl) (rv_tmp rfl) (.refl _) en
  · obtain ⟨m, rfl⟩ : ∃ m, k = m + 1 := ⟨k - 1, by omega⟩
    have bx := gd hx m; have hlz := hI.1; have hRV := hI.2.2.2.2; have hnl := nextR_lt hI hx; have hnv := nextR_val hx m R; rw [← getD_at] at hnv
    have hd : nextR us m R / V < 4294967296 := Nat.div_lt_of_lt_mul (by rw [Nat.mul_comm]; exact hnl)
    refine tri_reg mixed hcx ?_ _ _
    refine mv rfl ?_
    refine cge rfl rfl (decide_eq_true (by omega)) ?_
    refine ⟨by kernel_rfl, ?_⟩
    refine nx (sl 0 rfl (sl 1 rfl (sl 6 rfl (sl 7 rfl (sl 8 rfl (sl 16 rfl sn)))))) (el 112 rfl en) ?_
    refine tri_true rfl rfl ?_
    refine tri_skip ?_
    refine nx (sl 0 rfl (sl 1 rfl (sl 6 rfl (sl 7 rfl (sl 8 rfl sn))))) (el 112 rfl en) ?_
    refine tri_seq ?_
    refine tri_block ?_
    refine tri_seq ?_
    refine tri_reg mixed hcx ?_ _ _
    refine mv rfl ?_
    refine ml ((R : Int) * 4294967296) rfl rfl rfl (by omega) ?_
    refine mv rfl ?_
    refine mv rfl ?_
    refine ix rfl rfl slLs ⟨(by omega : _ = (m : Int)), by omega⟩ ?_
    refine lf rfl tyU32 ?_
    refine cvt _ rfl cvU32U64 rfl ⟨rfl, by omega, by omega⟩ ?_
    refine ad (((nextR us m R : Nat) : Int)) rfl rfl rfl (by omega) ?_
    refine asg rfl ?_
    refine ⟨by kernel_rfl, ?_⟩
    refine nx (sl 0 rfl (sl 1 rfl (sl 6 rfl (sl 7 rfl (sl 8 rfl sn))))) (el 112 rfl en) ?_
    refine tri_seq ?_
    refine tri_reg mixed hcx ?_ _ _
    refine mv rfl ?_
    refine mv rfl ?_
    refine mv rfl ?_
    refine mv rfl ?_
    refine qo ((nextR us m R / V : Nat) : Int) rfl rfl rfl ⟨(Int.natCast_ediv _ _).symm, by omega, by omega, by omega⟩ ?_
    refine cvm ((nextR us m R / V : Nat) : Int) rfl cvU64U32 (Int.emod_eq_of_lt (Int.natCast_nonneg _) (Int.ofNat_lt.2 hd)) ?_
    refine ixo rfl rfl rfl slLs ⟨(by omega : _ = (m : Int)), by omega⟩ ?_
    refine so rfl rfl rfl (.refl _) tyU32 ⟨rfl, by omega⟩ ?_
    refine ⟨by kernel_rfl, ?_⟩
    refine nx (sl 0 rfl (sl 1 rfl (sl 6 rfl (sl 7 rfl (sl 8 rfl sn))))) (el 112 rfl en) ?_
    refine tri_reg mixed hcx ?_ _ _
    refine mv rfl ?_
    refine mv rfl ?_
    refine re ((nextR us m R % V : Nat) : Int) rfl rfl ⟨(Int.natCast_emod _ _).symm, by omega, by omega⟩ ?_
    refine asg rfl ?_
    refine ⟨by kernel_rfl, ?_⟩
    refine pn_blk ?_
    refine nx (sl 0 rfl (sl 1 rfl (sl 6 rfl (sl 7 rfl (sl 8 rfl sn))))) (el 112 rfl en) ?_
    refine tri_reg mixed hcx ?_ _ _
    refine mv rfl ?_
    refine sb _ rfl rfl rfl ⟨rfl, by omega, by omega⟩ ?_
    refine asg rfl ?_
    refine ⟨by kernel_rfl, ?_⟩
    exact pn_back (m, nextR us m R % V, qs.set m ((nextR us m R / V : Nat) : Int)) (by first | omega | (dsimp only; omega)) ⟨by omega, dvI_put hI (by omega) hx hV0⟩ (sl 0 rfl (sl 1 rfl (sl 6 rfl (sl 7 rfl (sw 8 rfl (ci (by omega)) sn))))) (el 112 rfl en)

theorem r01_Bits {N k : Nat} (hk : k ≤ 17592186044416) : Fn Try.prog 75 [T.L N k] [] [] [] (T.c (.int .i64 ((nbits N : Nat) : Int))) := by
  refine fn_of Try.func75 rfl (by show 1 ≤ 31; decide) fun cx hcx => ?_
  refine tri_sub (sl 0 rfl sn) en ?_
  refine tri_ex 0 rfl fun xs ⟨hl, hv, hb⟩ => ?_
  refine tri_seq ?_
  refine tri_reg mixed hcx ?_ _ _
  refine asg rfl ?_
  refine ⟨by kernel_rfl, ?_⟩
  refine nx (sl 0 rfl sn) en ?_
  refine tri_seq ?_
  refine tri_seq ?_
  refine tri_reg mixed hcx ?_ _ _
  refine mv rfl ?_
  refine ln slLs rfl ?_
  refine sb _ rfl rfl rfl ⟨rfl, by omega, by omega⟩ ?_
  refine asg rfl ?_
  refine ⟨by kernel_rfl, ?_⟩
  refine nx (sl 0 rfl (sl 3 rfl sn)) en ?_
  refine tri_block ?_
  refine tri_loop (ι := Nat) (fun j => [(0, T.l cU xs), (3, T.c (.int .i64 ((j : Int) - 1)))]) (fun j => []) (fun j => j) (fun j => (j ≤ xs.length) ∧ (tl xs j = tl xs xs.length)) xs.length ⟨Nat.le_refl _, rfl⟩ (sl 0 rfl (sl 3 rfl sn)) en ?_
  rintro j ⟨hj, ht⟩
  refine tri_sub (sl 0 rfl (sl 3 rfl sn)) en ?_
  refine tri_seq ?_
  refine tri_seq ?_
  rcases Nat.eq_zero_or_pos j with h0 | h0
  · subst h0
    refine tri_reg mixed hcx ?_ _ _
    refine mv rfl ?_
    refine cge rfl rfl (decide_eq_false (by omega)) ?_
    refine ⟨by kernel_rfl, ?_⟩
    refine nx (sl 0 rfl (sl 3 rfl (sl 10 rfl sn))) en ?_
    refine tri_false rfl rfl ?_
    refine tri_exit ?_
    repeat (first | refine pn_then ?_ | refine pn_oth (by decide) ?_)
    refine pn_ex ?_
    refine nx sn en ?_
    refine tri_seq ?_
    refine tri_reg mixed hcx ?_ _ _
    refine asg rfl ?_
    refine ⟨by kernel_rfl, ?_⟩
    refine nx (sl 2 rfl sn) en ?_
    refine tri_ret ?_
    repeat (first | refine pn_thenr ?_ | refine pn_blkr ?_)
    exact ret1 hcx rfl (rv_tmp rfl) (ci (by rw [bits_zero hl ht hv]; rfl)) en
  · obtain ⟨m, rfl⟩ : ∃ m, j = m + 1 := ⟨j - 1, by omega⟩
    refine tri_as 3 (Z := T.c (.int .i64 (m : Int))) rfl (ci (by omega)) ?_
    have bx := gd hl m
    refine tri_reg mixed hcx ?_ _ _
    refine mv rfl ?_
    refine cge rfl rfl (decide_eq_true (by omega)) ?_
    refine ⟨by kernel_rfl, ?_⟩
    refine nx (sl 0 rfl (sl 3 rfl (sl 10 rfl sn))) en ?_
    refine tri_true rfl rfl ?_
    refine tri_skip ?_
    refine nx (sl 0 rfl (sl 3 rfl sn)) en ?_
    refine tri_seq ?_
    refine tri_block ?_
    refine tri_seq ?_
    refine tri_reg mixed hcx ?_ _ _
    refine mv rfl ?_
    refine mv rfl ?_
    refine ix rfl rfl slLs ⟨rfl, by omega⟩ ?_
    refine lf rfl tyU32 ?_
    refine cne rfl rfl rfl ?_
    refine ⟨by kernel_rfl, ?_⟩
    refine nx (sl 0 rfl (sl 3 rfl (sl 17 rfl sn))) en ?_
    refine tri_if rfl (fun hc => ?_) (fun hc => ?_)
    · have hbo := bits_of hl (by omega) ht hc hv; rw [← getD_at] at hbo
      have hn32 : nbits (xs.getD m cU.dflt).toNat ≤ 32 := nbits_le (by omega)
      refine tri_seq ?_
      refine tri_reg mixed hcx ?_ _ _
      refine mv rfl ?_
      refine ml (((32 * m : Nat) : Int)) rfl rfl rfl (by omega) ?_
      refine asg rfl ?_
      refine ⟨by kernel_rfl, ?_⟩
      refine nx (sl 0 rfl (sl 3 rfl (sl 4 rfl sn))) en ?_
      refine tri_seq ?_
      refine tri_seq ?_
      refine tri_reg mixed hcx ?_ _ _
      refine mv rfl ?_
      refine mv rfl ?_
      refine ix rfl rfl slLs ⟨rfl, by omega⟩ ?_
      refine lf rfl tyU32 ?_
      refine asg rfl ?_
      refine ⟨by kernel_rfl, ?_⟩
      refine nx (sl 4 rfl (sl 5 rfl sn)) en ?_
      refine tri_block ?_
      refine tri_loop (ι := Nat × Nat) (fun (w, q) => [(4, T.c (.int .i64 (q : Int))), (5, T.c (.int .u32 (w : Int)))]) (fun (w, q) => []) (fun (w, q) => w) (fun (w, q) => (w < 4294967296) ∧ (q + nbits w = nbits N)) ((xs.getD m cU.dflt).toNat, 32 * m) ⟨by omega, hbo.symm⟩ (sl 4 rfl (sw 5 rfl (ci (by omega)) sn)) en ?_
      rintro ⟨w, q⟩ ⟨hw, hq⟩
      refine tri_sub (sl 4 rfl (sl 5 rfl sn)) en ?_
      refine tri_seq ?_
      refine tri_seq ?_
      refine tri_reg mixed hcx ?_ _ _
      refine mv rfl ?_
      refine cgt rfl rfl rfl ?_
      refine ⟨by kernel_rfl, ?_⟩
      refine nx (sl 4 rfl (sl 5 rfl (sl 25 rfl sn))) en ?_
      refine tri_if rfl (fun hd => ?_) (fun hd => ?_)
      · have hqb : q ≤ nbits N := by omega
        have hN32 := nbits_len hl hv
        refine tri_skip ?_
        refine nx (sl 4 rfl (sl 5 rfl sn)) en ?_
        refine tri_seq ?_
        refine tri_block ?_
        refine tri_reg mixed hcx ?_ _ _
        refine mv rfl ?_
        refine ad (((q + 1 : Nat) : Int)) rfl rfl rfl (by omega) ?_
        refine asg rfl ?_
        refine ⟨by kernel_rfl, ?_⟩
        refine pn_blk ?_
        refine nx (sl 4 rfl (sl 5 rfl sn)) en ?_
        refine tri_reg mixed hcx ?_ _ _
        refine mv rfl ?_
        refine qo (((w / 2 : Nat) : Int)) rfl rfl rfl (by omega) ?_
        refine asg rfl ?_
        refine ⟨by kernel_rfl, ?_⟩
        exact pn_back (w / 2, q + 1) (by first | omega | (dsimp only; omega)) ⟨by omega, by rw [nbits_half (by omega)] at hq; omega⟩ (sl 4 rfl (sl 5 rfl sn)) en
      · refine tri_exit ?_
        repeat (first | refine pn_then ?_ | refine pn_oth (by decide) ?_)
        refine pn_ex ?_
        obtain rfl : w = 0 := by omega
        rw [show nbits 0 = 0 from rfl] at hq
        refine nx (sl 4 rfl sn) en ?_
        refine tri_seq ?_
        refine tri_reg mixed hcx ?_ _ _
        refine mv rfl ?_
        refine asg rfl ?_
        refine ⟨by kernel_rfl, ?_⟩
        refine nx (sl 2 rfl sn) en ?_
        refine tri_ret ?_
        repeat (first | refine pn_thenr ?_ | refine pn_blkr ?_)
        exact ret1 hcx rfl (rv_tmp rfl) (ci (by omega)) en
    · have hc' : at_ xs m = 0 := by rw [← getD_at]; omega
      refine tri_skip ?_
      refine pn_blk ?_
      refine nx (sl 0 rfl (sl 3 rfl sn)) en ?_
      refine tri_reg mixed hcx ?_ _ _
      refine mv rfl ?_
      refine sb _ rfl rfl rfl ⟨rfl, by omega, by omega⟩ ?_
      refine asg rfl ?_
      refine ⟨by kernel_rfl, ?_⟩
      exact pn_back m (by first | omega | (dsimp only; omega)) ⟨by omega, by rw [← ht]; simp [tl, hc']⟩ (sl 0 rfl (sl 3 rfl sn)) en

theorem r01_Two {n : Nat} (hn : n ≤ 281474976710656) : Fn Try.prog 60 [T.c (.int .i64 (n : Int))] [] [] [] (T.l cU (dig (2 ^ n))) := by
  refine fn_of Try.func60 rfl (by show 1 ≤ 21; decide) fun cx hcx => ?_
  refine tri_sub (sl 0 rfl sn) en ?_
  have hr : n % 32 < 32 := by omega
  have l6 := pow2_le hr; have l7 := pow2_pos (n % 32)
  refine tri_seq ?_
  refine tri_reg mixed hcx ?_ _ _
  refine asg rfl ?_
  refine ⟨by kernel_rfl, ?_⟩
  refine nx (sl 0 rfl sn) en ?_
  refine tri_seq ?_
  refine tri_reg mixed hcx ?_ _ _
  refine asg rfl ?_
  refine ⟨by kernel_rfl, ?_⟩
  refine nx (sl 0 rfl (sl 3 rfl sn)) en ?_
  refine tri_seq ?_
  refine tri_seq ?_
  refine tri_nil 3 9 77 cU rfl (by rw [hcx]; kernel_rfl) ?_
  refine tri_reg mixed hcx ?_ _ _
  refine asg rfl ?_
  refine ⟨by kernel_rfl, ?_⟩
  refine nx (sl 0 rfl (sl 3 rfl (sl 4 rfl sn))) (el 9 rfl en) ?_
  refine tri_block ?_
  refine tri_loop (ι := Nat) (fun j => [(0, T.c (.int .i64 (n : Int))), (3, T.o 9), (4, T.c (.int .i64 (j : Int)))]) (fun j => [(9, some (Ent.row cU 77 (List.replicate j 0)))]) (fun j => n / 32 - j) (fun j => (j ≤ n / 32)) 0 (Nat.zero_le _) (sl 0 rfl (sl 3 rfl (sl 4 rfl sn))) (el 9 rfl en) ?_
  rintro j hj
  refine tri_sub (sl 0 rfl (sl 3 rfl (sl 4 rfl sn))) (el 9 rfl en) ?_
  refine tri_seq ?_
  refine tri_seq ?_
  refine tri_reg mixed hcx ?_ _ _
  refine mv rfl ?_
  refine mv rfl ?_
  refine qo (((n / 32 : Nat) : Int)) rfl rfl rfl (by omega) ?_
  refine clt rfl rfl rfl ?_
  refine ⟨by kernel_rfl, ?_⟩
  refine nx (sl 0 rfl (sl 3 rfl (sl 4 rfl (sl 8 rfl sn)))) (el 9 rfl en) ?_
  refine tri_if rfl (fun hc => ?_) (fun hc => ?_)
  · refine tri_skip ?_
    refine nx (sl 0 rfl (sl 3 rfl (sl 4 rfl sn))) (el 9 rfl en) ?_
    refine tri_seq ?_
    refine tri_block ?_
    refine tri_reg mixed hcx ?_ _ _
    refine mv rfl ?_
    refine bl1 rfl slLs zvU32 ?_
    refine ap 512 rfl rfl rfl slLs (by simp only [List.length_replicate, List.length_cons, List.length_nil]; omega) (by decide) ?_
    refine asg rfl ?_
    refine ⟨by kernel_rfl, ?_⟩
    refine pn_blk ?_
    refine nx (sl 0 rfl (sl 3 rfl (sl 4 rfl sn))) (el 512 rfl en) ?_
    refine tri_reg mixed hcx ?_ _ _
    refine mv rfl ?_
    refine ad (((j + 1 : Nat) : Int)) rfl rfl rfl (by omega) ?_
    refine asg rfl ?_
    refine ⟨by kernel_rfl, ?_⟩
    refine pn_sub (sl 0 rfl (sl 3 rfl (sl 4 rfl sn))) (el 512 rfl en) ?_
    refine pn_ren 3 9 512 rfl rfl (by rw [hcx]; kernel_rfl) ?_
    exact pn_back (j + 1) (by first | omega | (dsimp only; omega)) (by omega) (sl 0 rfl (sl 3 rfl (sl 4 rfl sn))) (ew 9 rfl (.of (by rw [List.replicate_succ'])) en)
  · refine tri_exit ?_
    repeat (first | refine pn_then ?_ | refine pn_oth (by decide) ?_)
    refine pn_ex ?_
    obtain rfl : j = n / 32 := by omega
    refine nx (sl 0 rfl (sl 3 rfl sn)) (el 9 rfl en) ?_
    refine tri_seq ?_
    refine tri_reg mixed hcx ?_ _ _
    refine mv rfl ?_
    refine mv rfl ?_
    refine re (((n % 32 : Nat) : Int)) rfl rfl (by omega) ?_
    refine cvt _ rfl cvIU rfl ⟨rfl, by omega, by omega⟩ ?_
    refine shL (s := n % 32) ((2 : Int) ^ (n % 32)) rfl rfl rfl rfl ⟨Int.one_mul _, by omega, by omega, (by show n % 32 ≤ 32; omega)⟩ ?_
    refine bl1 rfl slLs zvU32 ?_
    refine ap 616 rfl rfl rfl slLs (by simp only [List.length_replicate, List.length_cons, List.length_nil]; omega) (by decide) ?_
    refine asg rfl ?_
    refine ⟨by kernel_rfl, ?_⟩
    refine nx (sl 2 rfl sn) (el 616 rfl en) ?_
    refine tri_fz 616 rfl ?_
    refine tri_rd 2 616 rfl rfl ?_
    refine tri_ret ?_
    repeat (first | refine pn_thenr ?_ | refine pn_blkr ?_)
    exact ret1 hcx rfl (rv_tmp rfl) (.of (by rw [two_dig])) en

theorem r01_Shr {M n k : Nat} (hk : k ≤ 8796093022208) (hn : n ≤ 281474976710656) : Fn Try.prog 87 [T.L M k, T.c (.int .i64 (n : Int))] [] [] [] (T.tup [T.l cU (dig (M / 2 ^ n)), T.c (.int .i64 0)]) := by
  refine fn_of Try.func87 rfl (by show 2 ≤ 44; decide) fun cx hcx => ?_
  refine tri_sub (sl 0 rfl (sl 1 rfl sn)) en ?_
  refine tri_ex 0 rfl fun xs ⟨hl, hv, hb⟩ => ?_
  have hnb := nbits_len hl hv; have hpp := pow2_pos (n % 32)
  refine tri_seq ?_
  refine tri_reg mixed hcx ?_ _ _
  refine asg rfl ?_
  refine asg rfl ?_
  refine ⟨by kernel_rfl, ?_⟩
  refine nx (sl 0 rfl (sl 1 rfl sn)) en ?_
  refine tri_seq ?_
  refine tri_seq ?_
  refine tri_reg mixed hcx ?_ _ _
  refine mv rfl ?_
  refine clt rfl rfl (decide_eq_false (by omega)) ?_
  refine ⟨by kernel_rfl, ?_⟩
  refine nx (sl 0 rfl (sl 1 rfl (sl 10 rfl sn))) en ?_
  refine tri_false rfl rfl ?_
  refine tri_skip ?_
  refine nx (sl 0 rfl (sl 1 rfl sn)) en ?_
  refine tri_seq ?_
  refine tri_seq ?_
  refine tri_reg mixed hcx ?_ _ _
  refine mv rfl ?_
  refine mv rfl ?_
  refine ca rfl (h := r01_Bits (by omega)) (hn := ?_)
  refine cge rfl rfl rfl ?_
  refine ⟨by kernel_rfl, ?_⟩
  refine nx (sl 0 rfl (sl 1 rfl (sl 14 rfl sn))) en ?_
  refine tri_if rfl (fun hc => ?_) (fun hc => ?_)
  · refine tri_seq ?_
    refine tri_reg mixed hcx ?_ _ _
    refine asg rfl ?_
    refine asg rfl ?_
    refine ⟨by kernel_rfl, ?_⟩
    refine nx (sl 4 rfl (sl 5 rfl sn)) en ?_
    refine tri_ret ?_
    repeat (first | refine pn_thenr ?_ | refine pn_blkr ?_)
    exact ret2 hcx rfl (rv_tmp rfl) (rv_tmp rfl) (tup_le ⟨nil_dig (div_zero_of (by omega)), .refl _, trivial⟩) en
  · refine tri_skip ?_
    refine nx (sl 0 rfl (sl 1 rfl sn)) en ?_
    refine tri_seq ?_
    refine tri_reg mixed hcx ?_ _ _
    refine asg rfl ?_
    refine ⟨by kernel_rfl, ?_⟩
    refine nx (sl 0 rfl (sl 1 rfl (sl 6 rfl sn))) en ?_
    refine tri_seq ?_
    refine tri_seq ?_
    refine tri_nil 6 9 77 cU rfl (by rw [hcx]; kernel_rfl) ?_
    refine tri_reg mixed hcx ?_ _ _
    refine mv rfl ?_
    refine qo (((n / 32 : Nat) : Int)) rfl rfl rfl (by omega) ?_
    refine asg rfl ?_
    refine ⟨by kernel_rfl, ?_⟩
    refine nx (sl 0 rfl (sl 1 rfl (sl 6 rfl (sl 7 rfl sn)))) (el 9 rfl en) ?_
    refine tri_block ?_
    refine tri_loop (ι := Nat × List Int) (fun (j, zs) => [(0, T.l cU xs), (1, T.c (.int .i64 (n : Int))), (6, T.o 9), (7, T.c (.int .i64 ((j + n / 32 : Nat) : Int)))]) (fun (j, zs) => [(9, some (Ent.row cU 77 (zs)))]) (fun (j, zs) => xs.length - j) (fun (j, zs) => (j + n / 32 ≤ xs.length) ∧ (zs.length = j) ∧ (Lim zs) ∧ (val zs = val (xs.drop (n / 32)) / 2 ^ (n % 32) % B j)) (0, []) ⟨by omega, rfl, Lim.nil, by rw [B_zero, Int.emod_one]; rfl⟩ (sl 0 rfl (sl 1 rfl (sl 6 rfl (sw 7 rfl (ci (by omega)) sn)))) (el 9 rfl en) ?_
    rintro ⟨j, zs⟩ ⟨hj, ho, hzl, hzv⟩
    refine tri_sub (sl 0 rfl (sl 1 rfl (sl 6 rfl (sl 7 rfl sn)))) (el 9 rfl en) ?_
    refine tri_seq ?_
    refine tri_seq ?_
    refine tri_reg mixed hcx ?_ _ _
    refine mv rfl ?_
    refine mv rfl ?_
    refine ln slLs rfl ?_
    refine clt rfl rfl rfl ?_
    refine ⟨by kernel_rfl, ?_⟩
    refine nx (sl 0 rfl (sl 1 rfl (sl 6 rfl (sl 7 rfl (sl 20 rfl sn))))) (el 9 rfl en) ?_
    refine tri_if rfl (fun hd => ?_) (fun hd => ?_)
    · have bx := gd hl (j + n / 32); have bY := gd hl (j + n / 32 + 1)
      have hq : 0 ≤ (xs.getD (j + n / 32) cU.dflt + xs.getD (j + n / 32 + 1) cU.dflt * 4294967296) / 2 ^ (n % 32) := Int.ediv_nonneg (by omega) (Int.le_of_lt hpp)
      have hS := shr_m1 xs zs hl (n / 32) (n % 32) j (xs.getD (j + n / 32) cU.dflt + xs.getD (j + n / 32 + 1) cU.dflt * 4294967296) (by omega) (by omega) ho hzl rfl hzv
      refine tri_skip ?_
      refine nx (sl 0 rfl (sl 1 rfl (sl 6 rfl (sl 7 rfl sn)))) (el 9 rfl en) ?_
      refine tri_seq ?_
      refine tri_block ?_
      refine tri_seq ?_
      refine tri_reg mixed hcx ?_ _ _
      refine mv rfl ?_
      refine mv rfl ?_
      refine ca rfl (h := r01_limb (by first | exact dig_lim _ | assumption)) (hn := ?_)
      refine mv rfl ?_
      refine mv rfl ?_
      refine ad (((j + n / 32 + 1 : Nat) : Int)) rfl rfl rfl (by omega) ?_
      refine ca rfl (h := r01_limb (by first | exact dig_lim _ | assumption)) (hn := ?_)
      refine ml (xs.getD (j + n / 32 + 1) cU.dflt * 4294967296) rfl rfl rfl (by omega) ?_
      refine ad _ rfl rfl rfl ⟨rfl, by omega, by omega⟩ ?_
      refine asg rfl ?_
      refine ⟨by kernel_rfl, ?_⟩
      refine nx (sl 0 rfl (sl 1 rfl (sl 6 rfl (sl 7 rfl (sl 8 rfl sn))))) (el 9 rfl en) ?_
      refine tri_reg mixed hcx ?_ _ _
      refine mv rfl ?_
      refine mv rfl ?_
      refine mv rfl ?_
      refine re (((n % 32 : Nat) : Int)) rfl rfl (by omega) ?_
      refine cvt _ rfl cvIU rfl ⟨rfl, by omega, by omega⟩ ?_
      refine shR (s := n % 32) ((xs.getD (j + n / 32) cU.dflt + xs.getD (j + n / 32 + 1) cU.dflt * 4294967296) / 2 ^ (n % 32)) rfl rfl rfl ⟨rfl, by omega, (by show n % 32 ≤ 64; omega)⟩ ?_
      refine re _ rfl rfl ⟨rfl, by omega, by omega⟩ ?_
      refine cvm ((xs.getD (j + n / 32) cU.dflt + xs.getD (j + n / 32 + 1) cU.dflt * 4294967296) / 2 ^ (n % 32) % 4294967296) rfl cvU64U32 (by omega) ?_
      refine bl1 rfl slLs zvU32 ?_
      refine ap 1019 rfl rfl rfl slLs (by simp only [List.length_cons, List.length_nil]; omega) (by decide) ?_
      refine asg rfl ?_
      refine ⟨by kernel_rfl, ?_⟩
      refine pn_blk ?_
      refine nx (sl 0 rfl (sl 1 rfl (sl 6 rfl (sl 7 rfl sn)))) (el 1019 rfl en) ?_
      refine tri_reg mixed hcx ?_ _ _
      refine mv rfl ?_
      refine ad (((j + n / 32 + 1 : Nat) : Int)) rfl rfl rfl (by omega) ?_
      refine asg rfl ?_
      refine ⟨by kernel_rfl, ?_⟩
      refine pn_sub (sl 0 rfl (sl 1 rfl (sl 6 rfl (sl 7 rfl sn)))) (el 1019 rfl en) ?_
      refine pn_ren 6 9 1019 rfl rfl (by rw [hcx]; kernel_rfl) ?_
      exact pn_back (j + 1, zs ++ [(xs.getD (j + n / 32) cU.dflt + xs.getD (j + n / 32 + 1) cU.dflt * 4294967296) / 2 ^ (n % 32) % 4294967296]) (by first | omega | (dsimp only; omega)) ⟨by omega, by rw [List.length_append, ho]; rfl, hS.1, hS.2⟩ (sl 0 rfl (sl 1 rfl (sl 6 rfl (sw 7 rfl (ci (by omega)) sn)))) (el 9 rfl en)
    · refine tri_exit ?_
      repeat (first | refine pn_then ?_ | refine pn_oth (by decide) ?_)
      refine pn_ex ?_
      have hE1 : val zs = ((M / 2 ^ n : Nat) : Int) := by rw [shr_end hl hzl ho (by omega) hzv, hv]; simp
      have hE3 : zs.length ≤ j := Nat.le_of_eq ho
      refine nx (sl 6 rfl sn) (el 9 rfl en) ?_
      refine tri_seq ?_
      refine tri_fz 9 rfl ?_
      refine tri_rd 6 9 rfl rfl ?_
      refine tri_reg mixed hcx ?_ _ _
      refine mv rfl ?_
      refine ca rfl (h := r01_Norm (by omega)) (hn := ?_)
      refine asg rfl ?_
      refine asg rfl ?_
      refine ⟨by kernel_rfl, ?_⟩
      refine nx (sl 4 rfl (sl 5 rfl sn)) (el 9 rfl en) ?_
      refine tri_ret ?_
      repeat (first | refine pn_thenr ?_ | refine pn_blkr ?_)
      exact ret2 hcx rfl (rv_tmp rfl) (rv_tmp rfl) (.refl _) en

theorem r01_Div {M N k l : Nat} (hN0 : 0 < N) (hk : k ≤ 1099511627776) (hl : l ≤ 1099511627776) (hlim : lim N ≤ l) : Fn Try.prog 67 [T.L M k, T.L N l] [] [] [] (T.tup [T.l cU (dig (M / N)), T.l cU (dig (M % N)), T.c (.int .i64 0)]) := by
  refine fn_of Try.func67 rfl (by show 2 ≤ 132; decide) fun cx hcx => ?_
  refine tri_sub (sl 0 rfl (sl 1 rfl sn)) en ?_
  have hp := lim_ps hN0; unfold lim at hp
  refine tri_ex 0 rfl fun us0 ⟨hl0, hv0, hb0⟩ => ?_
  have hLM := lim_val hl0 hv0 hb0
  refine tri_as 0 (Z := T.L M k) rfl (l_L hl0 hv0 hb0) ?_
  refine tri_seq ?_
  refine tri_reg mixed hcx ?_ _ _
  refine asg rfl ?_
  refine asg rfl ?_
  refine asg rfl ?_
  refine ⟨by kernel_rfl, ?_⟩
  refine nx (sl 0 rfl (sl 1 rfl sn)) en ?_
  refine tri_seq ?_
  refine tri_reg mixed hcx ?_ _ _
  refine mv rfl ?_
  refine ca rfl (h := r01_Norm (by omega)) (hn := ?_)
  refine asg rfl ?_
  refine ⟨by kernel_rfl, ?_⟩
  refine nx (sl 0 rfl (sl 7 rfl sn)) en ?_
  refine tri_seq ?_
  refine tri_seq ?_
  have hLN : lim N ≤ l := hlim
  refine tri_reg mixed hcx ?_ _ _
  refine mv rfl ?_
  refine ln slLs rfl ?_
  refine ceq rfl rfl (decide_eq_false (by omega)) ?_
  refine ⟨by kernel_rfl, ?_⟩
  refine nx (sl 0 rfl (sl 7 rfl (sl 24 rfl sn))) en ?_
  refine tri_false rfl rfl ?_
  refine tri_skip ?_
  refine nx (sl 0 rfl (sl 7 rfl sn)) en ?_
  refine tri_seq ?_
  refine tri_seq ?_
  refine tri_reg mixed hcx ?_ _ _
  refine mv rfl ?_
  refine ln slLs rfl ?_
  refine ceq rfl rfl rfl ?_
  refine ⟨by kernel_rfl, ?_⟩
  refine nx (sl 0 rfl (sl 7 rfl (sl 27 rfl sn))) en ?_
  refine tri_if rfl (fun hd => ?_) (fun hd => ?_)
  · have h1N := at_one (N := N) (by unfold lim; omega); rw [← getD_at] at h1N
    have h01 : (T.c (.int .u64 ((dig N).getD 0 cU.dflt))).le (T.c (.int .u64 (N : Int))) := ci h1N
    have bN := gd (dig_lim N) 0; have hmod := Nat.mod_lt M hN0
    have hL1 : Lim [((M % N : Nat) : Int)] := Lim.one (by omega) (by omega)
    have hL2 : val [((M % N : Nat) : Int)] = ((M % N : Nat) : Int) := val_one _
    have hL3 : [((M % N : Nat) : Int)].length ≤ 1 := Nat.le_refl _
    refine tri_seq ?_
    refine tri_reg mixed hcx ?_ _ _
    refine mv rfl ?_
    refine mv rfl ?_
    refine ix rfl rfl slLs ⟨(rfl : _ = ((0 : Nat) : Int)), by omega⟩ ?_
    refine lf rfl tyU32 ?_
    refine cvt _ rfl cvU32U64 rfl ⟨rfl, by omega, by omega⟩ ?_
    refine ca rfl (h := r01_small (by omega) (by omega) (by omega)) (hn := ?_)
    refine mv rfl ?_
    refine ex rfl rfl ?_
    refine ex rfl rfl ?_
    refine asg rfl ?_
    refine asg rfl ?_
    refine ⟨by kernel_rfl, ?_⟩
    refine nx (sl 8 rfl (sl 9 rfl sn)) en ?_
    refine tri_seq ?_
    refine tri_reg mixed hcx ?_ _ _
    refine mv rfl ?_
    refine mv rfl ?_
    refine cvm (((M % N : Nat) : Int)) rfl cvU64U32 (by omega) ?_
    refine bl1 rfl slLs zvU32 ?_
    refine ca rfl (h := r01_Norm (by omega)) (hn := ?_)
    refine asg rfl ?_
    refine asg rfl ?_
    refine asg rfl ?_
    refine ⟨by kernel_rfl, ?_⟩
    refine nx (sl 4 rfl (sl 5 rfl (sl 6 rfl sn))) en ?_
    refine tri_ret ?_
    repeat (first | refine pn_thenr ?_ | refine pn_blkr ?_)
    exact ret3 hcx rfl (rv_tmp rfl) (rv_tmp rfl) (rv_tmp rfl) (.refl _) en
  · refine tri_skip ?_
    refine nx (sl 0 rfl (sl 7 rfl sn)) en ?_
    refine tri_seq ?_
    have hnb := nbits_len (dig_lim N) (dig_val N); obtain ⟨s, hs⟩ : ∃ s, s = 32 * lim N - nbits N := ⟨_, rfl⟩
    have hsl : (dig N).length = lim N := rfl
    have h2s := two_limb s; have hlU : lim (M * 2 ^ s) ≤ k + (s / 32 + 1) := Nat.le_trans (lim_mul _ _) (Nat.add_le_add hLM h2s)
    obtain ⟨hTl, hT⟩ := top_set hN0 hs; have hV0 : 0 < N * 2 ^ s := Nat.mul_pos hN0 (Nat.pow_pos (by omega)); have hDS := div_shift M N s hN0
    obtain ⟨t, ht⟩ : ∃ t, lim N = t + 1 := ⟨lim N - 1, by omega⟩
    rw [show lim N - 1 = t by omega] at hT
    have hVl : (dig (N * 2 ^ s)).length = t + 1 := by show lim _ = _; omega
    have hUl : (dig (M * 2 ^ s)).length ≤ k + (s / 32 + 1) := hlU
    refine tri_reg mixed hcx ?_ _ _
    refine mv rfl ?_
    refine ln slLs rfl ?_
    refine ml (((32 * lim N : Nat) : Int)) rfl rfl rfl (by omega) ?_
    refine mv rfl ?_
    refine ca rfl (h := r01_Bits (by omega)) (hn := ?_)
    refine sb ((s : Int)) rfl rfl rfl (by omega) ?_
    refine ca rfl (h := r01_Two (by omega)) (hn := ?_)
    refine asg rfl ?_
    refine ⟨by kernel_rfl, ?_⟩
    refine nx (sl 0 rfl (sl 7 rfl (sl 10 rfl sn))) en ?_
    refine tri_seq ?_
    refine tri_reg mixed hcx ?_ _ _
    refine mv rfl ?_
    refine mv rfl ?_
    refine ca rfl (h := r01_Mul (by omega) (by omega)) (hn := ?_)
    refine asg rfl ?_
    refine ⟨by kernel_rfl, ?_⟩
    refine nx (sl 7 rfl (sl 10 rfl (sl 11 rfl sn))) en ?_
    refine tri_seq ?_
    refine tri_reg mixed hcx ?_ _ _
    refine mv rfl ?_
    refine mv rfl ?_
    refine ca rfl (h := r01_Mul (by omega) (by omega)) (hn := ?_)
    refine asg rfl ?_
    refine ⟨by kernel_rfl, ?_⟩
    refine nx (sl 7 rfl (sl 11 rfl (sl 12 rfl sn))) en ?_
    refine tri_seq ?_
    refine tri_reg mixed hcx ?_ _ _
    refine mv rfl ?_
    refine ln slLs rfl ?_
    refine mkz (c := cU) (n := (dig (M * 2 ^ s)).length) 1012 slLs rfl (by omega) (fun u => ⟨zvU32, zrU u⟩) (by decide) ?_
    refine asg rfl ?_
    refine ⟨by kernel_rfl, ?_⟩
    refine nx (sl 7 rfl (sl 11 rfl (sl 12 rfl (sl 13 rfl sn)))) (el 1012 rfl en) ?_
    refine tri_seq ?_
    refine tri_reg mixed hcx ?_ _ _
    refine asg rfl ?_
    refine ⟨by kernel_rfl, ?_⟩
    refine nx (sl 7 rfl (sl 11 rfl (sl 12 rfl (sl 13 rfl (sl 14 rfl sn))))) (el 1012 rfl en) ?_
    refine tri_seq ?_
    refine tri_seq ?_
    refine tri_reg mixed hcx ?_ _ _
    refine mv rfl ?_
    refine ln slLs rfl ?_
    refine sb _ rfl rfl rfl ⟨rfl, by omega, by omega⟩ ?_
    refine asg rfl ?_
    refine ⟨by kernel_rfl, ?_⟩
    refine nx (sl 7 rfl (sl 11 rfl (sl 12 rfl (sl 13 rfl (sl 14 rfl (sl 15 rfl sn)))))) (el 1012 rfl en) ?_
    refine tri_block ?_
    refine tri_loop (ι := Nat × Nat × List Int) (fun (j, R, qs) => [(7, T.l cU (dig N)), (11, T.l cU (dig (M * 2 ^ s))), (12, T.l cU (dig (N * 2 ^ s))), (13, T.o 1012), (14, T.l cU (dig R)), (15, T.c (.int .i64 ((j : Int) - 1)))]) (fun (j, R, qs) => [(1012, some (Ent.row cU 77 (qs)))]) (fun (j, R, qs) => j) (fun (j, R, qs) => (j ≤ (dig (M * 2 ^ s)).length) ∧ (dvI (dig (M * 2 ^ s)) qs (N * 2 ^ s) j R)) ((dig (M * 2 ^ s)).length, 0, List.replicate (dig (M * 2 ^ s)).length 0) ⟨Nat.le_refl _, dvI_start _ hV0⟩ (sl 7 rfl (sl 11 rfl (sl 12 rfl (sl 13 rfl (sw 14 rfl (nil_dig rfl) (sl 15 rfl sn)))))) (el 1012 rfl en) ?_
    rintro ⟨j, R, qs⟩ ⟨hj, hI⟩
    refine tri_sub (sl 7 rfl (sl 11 rfl (sl 12 rfl (sl 13 rfl (sl 14 rfl (sl 15 rfl sn)))))) (el 1012 rfl en) ?_
    refine tri_seq ?_
    refine tri_seq ?_
    rcases Nat.eq_zero_or_pos j with h0 | h0
    · subst h0
      refine tri_reg mixed hcx ?_ _ _
      refine mv rfl ?_
      refine cge rfl rfl (decide_eq_false (by omega)) ?_
      refine ⟨by kernel_rfl, ?_⟩
      refine nx (sl 7 rfl (sl 11 rfl (sl 12 rfl (sl 13 rfl (sl 14 rfl (sl 15 rfl (sl 62 rfl sn))))))) (el 1012 rfl en) ?_
      refine tri_false rfl rfl ?_
      refine tri_exit ?_
      repeat (first | refine pn_then ?_ | refine pn_oth (by decide) ?_)
      refine pn_ex ?_
      refine nx (sl 7 rfl (sl 13 rfl (sl 14 rfl sn))) (el 1012 rfl en) ?_
      refine tri_seq ?_
      have hE := dvI_end hI (dig_val _); rw [hDS.1] at hE; have hE1 := hE.1; have hE2 := hI.2.1; have hE3 : qs.length ≤ (dig (M * 2 ^ s)).length := Nat.le_of_eq hI.1
      have hRV := hI.2.2.2.2; have hlR : lim R ≤ t + 1 := Nat.le_trans (lim_mono (Nat.le_of_lt hRV)) (Nat.le_of_eq hVl)
      refine tri_reg mixed hcx ?_ _ _
      refine mv rfl ?_
      refine mv rfl ?_
      refine ln slLs rfl ?_
      refine ml (((32 * lim N : Nat) : Int)) rfl rfl rfl (by omega) ?_
      refine mv rfl ?_
      refine ca rfl (h := r01_Bits (by omega)) (hn := ?_)
      refine sb ((s : Int)) rfl rfl rfl (by omega) ?_
      refine ca rfl (h := r01_Shr (by omega) (by omega)) (hn := ?_)
      refine mv rfl ?_
      refine ex rfl rfl ?_
      refine ex rfl rfl ?_
      refine asg rfl ?_
      refine asg rfl ?_
      refine ⟨by kernel_rfl, ?_⟩
      refine nx (sl 13 rfl (sl 18 rfl sn)) (el 1012 rfl en) ?_
      refine tri_seq ?_
      refine tri_fz 1012 rfl ?_
      refine tri_rd 13 1012 rfl rfl ?_
      refine tri_reg mixed hcx ?_ _ _
      refine mv rfl ?_
      refine ca rfl (h := r01_Norm (by omega)) (hn := ?_)
      refine mv rfl ?_
      refine asg rfl ?_
      refine asg rfl ?_
      refine asg rfl ?_
      refine ⟨by kernel_rfl, ?_⟩
      refine nx (sl 4 rfl (sl 5 rfl (sl 6 rfl sn))) (el 1012 rfl en) ?_
      refine tri_ret ?_
      repeat (first | refine pn_thenr ?_ | refine pn_blkr ?_)
      exact ret3 hcx rfl (rv_tmp rfl) (rv_tmp rfl) (rv_tmp rfl) (tup_le ⟨.refl _, .of (by rw [hE.2, hDS.2]), .refl _, trivial⟩) en
    · obtain ⟨m, rfl⟩ : ∃ m, j = m + 1 := ⟨j - 1, by omega⟩
      refine tri_as 15 (Z := T.c (.int .i64 (m : Int))) rfl (ci (by omega)) ?_
      have hRV := hI.2.2.2.2; have hlR : lim R ≤ t + 1 := Nat.le_trans (lim_mono (Nat.le_of_lt hRV)) (Nat.le_of_eq hVl); have hlR2 : (dig R).length ≤ t + 1 := hlR
      have bx := gd (dig_lim (M * 2 ^ s)) m; have hnx := nextR_lt hI (dig_lim _); have hql := hI.1; have hlx : lim (nextR (dig (M * 2 ^ s)) m R) ≤ t + 2 := lim_next hnx (Nat.le_of_eq hVl)
      have hL1 : Lim ([(dig (M * 2 ^ s)).getD m cU.dflt] ++ dig R) := nextR_lim (dig_lim _) m R
      have hL2 : val ([(dig (M * 2 ^ s)).getD m cU.dflt] ++ dig R) = (((nextR (dig (M * 2 ^ s)) m R) : Nat) : Int) := nextR_is (dig_lim _) m R
      have hL3 : ([(dig (M * 2 ^ s)).getD m cU.dflt] ++ dig R).length ≤ t + 2 := by rw [List.length_append, List.length_singleton]; omega
      refine tri_reg mixed hcx ?_ _ _
      refine mv rfl ?_
      refine cge rfl rfl (decide_eq_true (by omega)) ?_
      refine ⟨by kernel_rfl, ?_⟩
      refine nx (sl 7 rfl (sl 11 rfl (sl 12 rfl (sl 13 rfl (sl 14 rfl (sl 15 rfl (sl 62 rfl sn))))))) (el 1012 rfl en) ?_
      refine tri_true rfl rfl ?_
      refine tri_skip ?_
      refine nx (sl 7 rfl (sl 11 rfl (sl 12 rfl (sl 13 rfl (sl 14 rfl (sl 15 rfl sn)))))) (el 1012 rfl en) ?_
      refine tri_seq ?_
      refine tri_block ?_
      refine tri_seq ?_
      refine tri_reg mixed hcx ?_ _ _
      refine mv rfl ?_
      refine mv rfl ?_
      refine ix rfl rfl slLs ⟨rfl, by omega⟩ ?_
      refine lf rfl tyU32 ?_
      refine bo1 1514 rfl slLs zvU32 ?_
      refine mv rfl ?_
      refine apf rfl rfl rfl slLs (by simp only [List.length_cons, List.length_nil]; omega) (by decide) ?_
      refine ca rfl (h := r01_Norm (by omega)) (hn := ?_)
      refine asg rfl ?_
      refine ⟨by kernel_rfl, ?_⟩
      refine nx (sl 7 rfl (sl 11 rfl (sl 12 rfl (sl 13 rfl (sl 14 rfl (sl 15 rfl sn)))))) (el 1012 rfl en) ?_
      refine tri_seq ?_
      refine tri_seq ?_
      refine tri_reg mixed hcx ?_ _ _
      refine mv rfl ?_
      refine mv rfl ?_
      refine ca rfl (h := r01_Cmp (by omega) (by omega)) (hn := ?_)
      refine clt rfl rfl rfl ?_
      refine ⟨by kernel_rfl, ?_⟩
      refine nx (sl 7 rfl (sl 11 rfl (sl 12 rfl (sl 13 rfl (sl 14 rfl (sl 15 rfl (sl 76 rfl sn))))))) (el 1012 rfl en) ?_
      refine tri_if rfl (fun hc => ?_) (fun hc => ?_)
      · refine tri_exit ?_
        repeat (first | refine pn_then ?_ | refine pn_oth (by decide) ?_)
        refine pn_ex ?_
        refine nx (sl 7 rfl (sl 11 rfl (sl 12 rfl (sl 13 rfl (sl 14 rfl (sl 15 rfl sn)))))) (el 1012 rfl en) ?_
        refine tri_reg mixed hcx ?_ _ _
        refine mv rfl ?_
        refine sb (((m : Int) - 1)) rfl rfl rfl (by omega) ?_
        refine asg rfl ?_
        refine ⟨by kernel_rfl, ?_⟩
        exact pn_back (m, (nextR (dig (M * 2 ^ s)) m R), qs) (by first | omega | (dsimp only; omega)) ⟨by omega, dvI_skip hI (by omega) (dig_lim _) (sgnc_neg hc)⟩ (sl 7 rfl (sl 11 rfl (sl 12 rfl (sl 13 rfl (sl 14 rfl (sl 15 rfl sn)))))) (el 1012 rfl en)
      · have hge := sgnc_nlt hc
        obtain ⟨c, hcb, hcg⟩ := guess_nat (m := t) hVl hT hnx; obtain ⟨Q, hQ⟩ : ∃ Q, Q = (nextR (dig (M * 2 ^ s)) m R) / (N * 2 ^ s) := ⟨_, rfl⟩; rw [← hQ, ← getD_at, ← getD_at, ← getD_at, ← hVl] at hcg; rw [← hQ] at hcb
        have g1 := gd (dig_lim (nextR (dig (M * 2 ^ s)) m R)) (dig (N * 2 ^ s)).length; have g2 := gd (dig_lim (nextR (dig (M * 2 ^ s)) m R)) t; have g3 := gd (dig_lim (N * 2 ^ s)) t; rw [← getD_at] at hT; have hQR : (N * 2 ^ s) * Q ≤ (nextR (dig (M * 2 ^ s)) m R) := by rw [hQ]; exact Nat.mul_div_le _ _
        have hG1 : Lim [((Q + c : Nat) : Int)] := Lim.one (by omega) (by omega)
        have hG2 : val [((Q + c : Nat) : Int)] = ((Q + c : Nat) : Int) := val_one _
        have hG3 : [((Q + c : Nat) : Int)].length ≤ 1 := Nat.le_refl _
        clear hL1 hL2 hL3
        refine tri_skip ?_
        refine nx (sl 7 rfl (sl 11 rfl (sl 12 rfl (sl 13 rfl (sl 14 rfl (sl 15 rfl sn)))))) (el 1012 rfl en) ?_
        refine tri_seq ?_
        refine tri_reg mixed hcx ?_ _ _
        refine mv rfl ?_
        refine mv rfl ?_
        refine ln slLs rfl ?_
        refine ca rfl (h := r01_limb (by first | exact dig_lim _ | assumption)) (hn := ?_)
        refine ml ((dig (nextR (dig (M * 2 ^ s)) m R)).getD (dig (N * 2 ^ s)).length cU.dflt * 4294967296) rfl rfl rfl (by omega) ?_
        refine mv rfl ?_
        refine mv rfl ?_
        refine ln slLs rfl ?_
        refine sb ((t : Int)) rfl rfl rfl (by omega) ?_
        refine ca rfl (h := r01_limb (by first | exact dig_lim _ | assumption)) (hn := ?_)
        refine ad _ rfl rfl rfl ⟨rfl, by omega, by omega⟩ ?_
        refine mv rfl ?_
        refine mv rfl ?_
        refine ln slLs rfl ?_
        refine sb ((t : Int)) rfl rfl rfl (by omega) ?_
        refine ca rfl (h := r01_limb (by first | exact dig_lim _ | assumption)) (hn := ?_)
        refine qo _ rfl rfl rfl ⟨rfl, by omega, by omega, by omega⟩ ?_
        refine asg rfl ?_
        refine ⟨by kernel_rfl, ?_⟩
        refine nx (sl 7 rfl (sl 11 rfl (sl 12 rfl (sl 13 rfl (sl 14 rfl (sl 15 rfl (sl 16 rfl sn))))))) (el 1012 rfl en) ?_
        refine tri_join (ι := Unit) (fun _ => [(7, T.l cU (dig N)), (11, T.l cU (dig (M * 2 ^ s))), (12, T.l cU (dig (N * 2 ^ s))), (13, T.o 1012), (14, T.l cU (dig (nextR (dig (M * 2 ^ s)) m R))), (15, T.c (.int .i64 (m : Int))), (16, T.c (.int .u64 ((Q + c : Nat) : Int)))]) (fun _ => [(1012, some (Ent.row cU 77 (qs)))]) (fun _ => True) ?_ ?_
        · refine tri_seq ?_
          refine tri_reg mixed hcx ?_ _ _
          refine mv rfl ?_
          refine cge rfl rfl rfl ?_
          refine ⟨by kernel_rfl, ?_⟩
          refine nx (sl 7 rfl (sl 11 rfl (sl 12 rfl (sl 13 rfl (sl 14 rfl (sl 15 rfl (sl 16 rfl (sl 95 rfl sn)))))))) (el 1012 rfl en) ?_
          refine tri_if rfl (fun hg => ?_) (fun hg => ?_)
          · refine tri_reg mixed hcx ?_ _ _
            refine asg rfl ?_
            refine ⟨by kernel_rfl, ?_⟩
            first | exact pn_join () trivial (sl 7 rfl (sl 11 rfl (sl 12 rfl (sl 13 rfl (sl 14 rfl (sl 15 rfl (sw 16 rfl (ci (mn_big hcg (by omega))) sn))))))) (el 1012 rfl en) | exact pn_join () trivial (sl 7 rfl (sl 11 rfl (sl 12 rfl (sl 13 rfl (sl 14 rfl (sl 15 rfl (sw 16 rfl (ci (mn_small hcg (by omega))) sn))))))) (el 1012 rfl en)
          · refine tri_skip ?_
            first | exact pn_join () trivial (sl 7 rfl (sl 11 rfl (sl 12 rfl (sl 13 rfl (sl 14 rfl (sl 15 rfl (sw 16 rfl (ci (mn_big hcg (by omega))) sn))))))) (el 1012 rfl en) | exact pn_join () trivial (sl 7 rfl (sl 11 rfl (sl 12 rfl (sl 13 rfl (sl 14 rfl (sl 15 rfl (sw 16 rfl (ci (mn_small hcg (by omega))) sn))))))) (el 1012 rfl en)
        · rintro _ _
          refine tri_sub (sl 7 rfl (sl 11 rfl (sl 12 rfl (sl 13 rfl (sl 14 rfl (sl 15 rfl (sl 16 rfl sn))))))) (el 1012 rfl en) ?_
          refine tri_seq ?_
          refine tri_reg mixed hcx ?_ _ _
          refine mv rfl ?_
          refine mv rfl ?_
          refine cvm (((Q + c : Nat) : Int)) rfl cvU64U32 (by omega) ?_
          refine bl1 rfl slLs zvU32 ?_
          refine ca rfl (h := r01_Mul (by omega) (by omega)) (hn := ?_)
          refine asg rfl ?_
          refine ⟨by kernel_rfl, ?_⟩
          refine nx (sl 7 rfl (sl 11 rfl (sl 12 rfl (sl 13 rfl (sl 14 rfl (sl 15 rfl (sl 16 rfl (sl 17 rfl sn)))))))) (el 1012 rfl en) ?_
          refine tri_seq ?_
          refine tri_block ?_
          refine tri_loop (ι := Nat × Nat) (fun (e, p) => [(7, T.l cU (dig N)), (11, T.l cU (dig (M * 2 ^ s))), (12, T.l cU (dig (N * 2 ^ s))), (13, T.o 1012), (14, T.l cU (dig (nextR (dig (M * 2 ^ s)) m R))), (15, T.c (.int .i64 (m : Int))), (16, T.c (.int .u64 ((Q + e : Nat) : Int))), (17, T.l cU (dig p))]) (fun (e, p) => [(1012, some (Ent.row cU 77 (qs)))]) (fun (e, p) => e) (fun (e, p) => (e ≤ c) ∧ (p = (N * 2 ^ s) * (Q + e))) (c, (N * 2 ^ s) * (Q + c)) ⟨Nat.le_refl _, rfl⟩ (sl 7 rfl (sl 11 rfl (sl 12 rfl (sl 13 rfl (sl 14 rfl (sl 15 rfl (sl 16 rfl (sl 17 rfl sn)))))))) (el 1012 rfl en) ?_
          rintro ⟨e, p⟩ ⟨he, hp2⟩
          refine tri_sub (sl 7 rfl (sl 11 rfl (sl 12 rfl (sl 13 rfl (sl 14 rfl (sl 15 rfl (sl 16 rfl (sl 17 rfl sn)))))))) (el 1012 rfl en) ?_
          have hlp : lim p ≤ (t + 1) + 1 := by rw [hp2]; exact Nat.le_trans (lim_mul _ _) (Nat.add_le_add (Nat.le_of_eq hVl) (lim_small (by omega)))
          refine tri_seq ?_
          refine tri_seq ?_
          refine tri_reg mixed hcx ?_ _ _
          refine mv rfl ?_
          refine mv rfl ?_
          refine ca rfl (h := r01_Cmp (by omega) (by omega)) (hn := ?_)
          refine cgt rfl rfl rfl ?_
          refine ⟨by kernel_rfl, ?_⟩
          refine nx (sl 7 rfl (sl 11 rfl (sl 12 rfl (sl 13 rfl (sl 14 rfl (sl 15 rfl (sl 16 rfl (sl 17 rfl (sl 104 rfl sn))))))))) (el 1012 rfl en) ?_
          refine tri_if rfl (fun hz => ?_) (fun hz => ?_)
          · have hpN := Nat.lt_of_not_le fun h => sgnc_not h hz
            obtain ⟨e1, rfl⟩ : ∃ e1, e = e1 + 1 := ⟨e - 1, by { rcases Nat.eq_zero_or_pos e with h | h; { subst h; rw [Nat.add_zero] at hp2; omega }; omega }⟩
            have hpp := mul_pred hp2; have hpp1 := hpp.1
            refine tri_skip ?_
            refine nx (sl 7 rfl (sl 11 rfl (sl 12 rfl (sl 13 rfl (sl 14 rfl (sl 15 rfl (sl 16 rfl (sl 17 rfl sn)))))))) (el 1012 rfl en) ?_
            refine tri_block ?_
            refine tri_seq ?_
            refine tri_reg mixed hcx ?_ _ _
            refine mv rfl ?_
            refine sb (((Q + e1 : Nat) : Int)) rfl rfl rfl (by omega) ?_
            refine asg rfl ?_
            refine ⟨by kernel_rfl, ?_⟩
            refine nx (sl 7 rfl (sl 11 rfl (sl 12 rfl (sl 13 rfl (sl 14 rfl (sl 15 rfl (sl 16 rfl (sl 17 rfl sn)))))))) (el 1012 rfl en) ?_
            refine tri_reg mixed hcx ?_ _ _
            refine mv rfl ?_
            refine mv rfl ?_
            refine ca rfl (h := r01_less (by omega) (by omega) (by omega)) (hn := ?_)
            refine asg rfl ?_
            refine ⟨by kernel_rfl, ?_⟩
            refine pn_blk ?_
            exact pn_back (e1, p - N * 2 ^ s) (by first | omega | (dsimp only; omega)) ⟨by omega, hpp.2⟩ (sl 7 rfl (sl 11 rfl (sl 12 rfl (sl 13 rfl (sl 14 rfl (sl 15 rfl (sl 16 rfl (sl 17 rfl sn)))))))) (el 1012 rfl en)
          · refine tri_exit ?_
            repeat (first | refine pn_then ?_ | refine pn_oth (by decide) ?_)
            refine pn_ex ?_
            have hpR : p ≤ (nextR (dig (M * 2 ^ s)) m R) := Nat.le_of_not_lt fun h => hz (sgnc_yes h)
            obtain rfl : e = 0 := Nat.eq_zero_of_not_pos fun h => by { obtain ⟨e1, rfl⟩ : ∃ e1, e = e1 + 1 := ⟨e - 1, by omega⟩; have := lt_mul_next (e := e1) hV0 hQ; omega }
            rw [Nat.add_zero] at hp2; subst hp2
            refine nx (sl 7 rfl (sl 11 rfl (sl 12 rfl (sl 13 rfl (sl 14 rfl (sl 15 rfl (sl 16 rfl (sl 17 rfl sn)))))))) (el 1012 rfl en) ?_
            refine tri_seq ?_
            refine tri_reg mixed hcx ?_ _ _
            refine mv rfl ?_
            refine mv rfl ?_
            refine mv rfl ?_
            refine cvm ((Q : Int)) rfl cvU64U32 (by omega) ?_
            refine ixo rfl rfl rfl slLs ⟨rfl, by omega⟩ ?_
            refine so rfl rfl rfl (.refl _) tyU32 ⟨rfl, by omega⟩ ?_
            refine ⟨by kernel_rfl, ?_⟩
            refine nx (sl 7 rfl (sl 11 rfl (sl 12 rfl (sl 13 rfl (sl 14 rfl (sl 15 rfl (sl 17 rfl sn))))))) (el 1012 rfl en) ?_
            refine tri_reg mixed hcx ?_ _ _
            refine mv rfl ?_
            refine mv rfl ?_
            refine ca rfl (h := r01_less (by omega) (by omega) (by omega)) (hn := ?_)
            refine asg rfl ?_
            refine ⟨by kernel_rfl, ?_⟩
            refine pn_blk ?_
            refine nx (sl 7 rfl (sl 11 rfl (sl 12 rfl (sl 13 rfl (sl 14 rfl (sl 15 rfl sn)))))) (el 1012 rfl en) ?_
            refine tri_reg mixed hcx ?_ _ _
            refine mv rfl ?_
            refine sb (((m : Int) - 1)) rfl rfl rfl (by omega) ?_
            refine asg rfl ?_
            refine ⟨by kernel_rfl, ?_⟩
            exact pn_back (m, (nextR (dig (M * 2 ^ s)) m R) - (N * 2 ^ s) * Q, qs.set m (Q : Int)) (by first | omega | (dsimp only; omega)) ⟨by omega, dvI_put' hI (by omega) (dig_lim _) hV0 hQ rfl⟩ (sl 7 rfl (sl 11 rfl (sl 12 rfl (sl 13 rfl (sl 14 rfl (sl 15 rfl sn)))))) (el 1012 rfl en)

theorem r01_Gcd {M N k l : Nat} (hk : k ≤ 1099511627776) (hl : l ≤ 1099511627776) : Fn Try.prog 66 [T.L M k, T.L N l] [] [] [] (T.l cU (dig (Nat.gcd M N))) := by
  refine fn_of Try.func66 rfl (by show 2 ≤ 27; decide) fun cx hcx => ?_
  refine tri_sub (sl 0 rfl (sl 1 rfl sn)) en ?_
  refine tri_ex 0 rfl fun xs ⟨hl0, hv0, hb0⟩ => ?_
  refine tri_ex 1 rfl fun ys ⟨hl1, hv1, hb1⟩ => ?_
  have hM := lim_val hl0 hv0 hb0; have hN := lim_val hl1 hv1 hb1; unfold lim at hM hN
  refine tri_seq ?_
  refine tri_reg mixed hcx ?_ _ _
  refine asg rfl ?_
  refine ⟨by kernel_rfl, ?_⟩
  refine nx (sl 0 rfl (sl 1 rfl sn)) en ?_
  refine tri_seq ?_
  refine tri_reg mixed hcx ?_ _ _
  refine mv rfl ?_
  refine ca rfl (h := r01_Norm (by omega)) (hn := ?_)
  refine asg rfl ?_
  refine ⟨by kernel_rfl, ?_⟩
  refine nx (sl 1 rfl (sl 5 rfl sn)) en ?_
  refine tri_seq ?_
  refine tri_reg mixed hcx ?_ _ _
  refine mv rfl ?_
  refine ca rfl (h := r01_Norm (by omega)) (hn := ?_)
  refine asg rfl ?_
  refine ⟨by kernel_rfl, ?_⟩
  refine nx (sl 5 rfl (sl 6 rfl sn)) en ?_
  refine tri_seq ?_
  refine tri_block ?_
  refine tri_loop (ι := Nat × Nat) (fun (a, b) => [(5, T.l cU (dig a)), (6, T.l cU (dig b))]) (fun (a, b) => []) (fun (a, b) => b) (fun (a, b) => (Nat.gcd a b = Nat.gcd M N) ∧ (lim a ≤ 1099511627776) ∧ (lim b ≤ 1099511627776)) (M, N) ⟨rfl, Nat.le_trans hM hk, Nat.le_trans hN hl⟩ (sl 5 rfl (sl 6 rfl sn)) en ?_
  rintro ⟨a, b⟩ ⟨hg, ha, hb⟩
  refine tri_sub (sl 5 rfl (sl 6 rfl sn)) en ?_
  refine tri_seq ?_
  refine tri_seq ?_
  refine tri_reg mixed hcx ?_ _ _
  refine mv rfl ?_
  refine ln slLs rfl ?_
  refine cgt rfl rfl rfl ?_
  refine ⟨by kernel_rfl, ?_⟩
  refine nx (sl 5 rfl (sl 6 rfl (sl 16 rfl sn))) en ?_
  refine tri_if rfl (fun hc => ?_) (fun hc => ?_)
  · have hb0 : 0 < b := Nat.pos_of_ne_zero fun h => by { subst h; rw [dig_zero] at hc; simp at hc }
    refine tri_skip ?_
    refine nx (sl 5 rfl (sl 6 rfl sn)) en ?_
    refine tri_block ?_
    refine tri_seq ?_
    refine tri_reg mixed hcx ?_ _ _
    refine mv rfl ?_
    refine mv rfl ?_
    refine ca rfl (h := r01_Div (by omega) (by omega) (by omega) (by omega)) (hn := ?_)
    refine mv rfl ?_
    refine ex rfl rfl ?_
    refine ex rfl rfl ?_
    refine ex rfl rfl ?_
    refine asg rfl ?_
    refine asg rfl ?_
    refine asg rfl ?_
    refine ⟨by kernel_rfl, ?_⟩
    refine nx (sl 6 rfl (sl 8 rfl sn)) en ?_
    refine tri_seq ?_
    refine tri_reg mixed hcx ?_ _ _
    refine mv rfl ?_
    refine asg rfl ?_
    refine ⟨by kernel_rfl, ?_⟩
    refine nx (sl 5 rfl (sl 8 rfl sn)) en ?_
    refine tri_reg mixed hcx ?_ _ _
    refine mv rfl ?_
    refine asg rfl ?_
    refine ⟨by kernel_rfl, ?_⟩
    refine pn_blk ?_
    exact pn_back (b, a % b) (Nat.mod_lt a hb0) ⟨by rw [← hg, Nat.gcd_comm a b, Nat.gcd_rec b a, Nat.gcd_comm], hb, Nat.le_trans (lim_mono (Nat.le_of_lt (Nat.mod_lt a hb0))) hb⟩ (sl 5 rfl (sl 6 rfl sn)) en
  · refine tri_exit ?_
    repeat (first | refine pn_then ?_ | refine pn_oth (by decide) ?_)
    refine pn_ex ?_
    obtain rfl : b = 0 := Nat.eq_zero_of_not_pos fun h => by { have := lim_ps h; unfold lim at this; omega }
    rw [Nat.gcd_zero_right] at hg
    refine nx (sl 5 rfl sn) en ?_
    refine tri_seq ?_
    refine tri_reg mixed hcx ?_ _ _
    refine mv rfl ?_
    refine asg rfl ?_
    refine ⟨by kernel_rfl, ?_⟩
    refine nx (sl 4 rfl sn) en ?_
    refine tri_ret ?_
    repeat (first | refine pn_thenr ?_ | refine pn_blkr ?_)
    exact ret1 hcx rfl (rv_tmp rfl) (.of (by rw [hg])) en
end Go.Proofs.Ytlmiadjogdfjkaa.V
