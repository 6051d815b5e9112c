/- The data of rows, and what refuses them. -/
import Derived.Test.YtbihfnjmdpbkgaaKP
import Derived.Test.YtbihfnjmdpbkgaaGb
set_option linter.unusedVariables false
set_option linter.unusedSimpArgs false
set_option maxRecDepth 100000
namespace Go.Proofs.Ytbihfnjmdpbkgaa.V
open Go.RowKit Mt Nml
theorem r05_shape_t {b : List (List Int)} {k : Nat} {r : Int} (hk : k ≤ 1048576) (hbl : b.length ≤ 1048576) (hrr : ∀ i, i < b.length → (b.getD i []).length ≤ 1048576) (hR : ShR b true r) : Fn Try.prog 133 [T.l (cL (cZi k)) b, T.c (.bool true)] [] [] [] (T.c (.int .i64 r)) := by
  refine fn_of Try.func133 rfl (by show 2 ≤ 64; decide) fun cx hcx => ?_
  refine tri_sub (sl 0 rfl (sl 1 rfl sn)) en ?_
  refine tri_seq ?_
  refine tri_reg mixed hcx ?_ _ _
  refine asg rfl ?_
  refine ⟨by kernel_rfl, ?_⟩
  refine nx (sl 0 rfl (sl 1 rfl sn)) en ?_
  refine tri_seq ?_
  refine tri_seq ?_
  refine tri_reg mixed hcx ?_ _ _
  refine mv rfl ?_
  refine ln slZss rfl ?_
  refine cgt rfl rfl rfl ?_
  refine ⟨by kernel_rfl, ?_⟩
  refine nx (sl 0 rfl (sl 1 rfl (sl 10 rfl sn))) en ?_
  refine tri_if rfl (fun h1 => ?_) (fun h1 => ?_)
  · refine tri_seq ?_
    refine tri_reg mixed hcx ?_ _ _
    refine asg rfl ?_
    refine ⟨by kernel_rfl, ?_⟩
    refine nx (sl 4 rfl sn) en ?_
    refine tri_ret ?_
    repeat (first | refine pn_thenr ?_ | refine pn_blkr ?_)
    exact ret1 hcx rfl (rv_tmp rfl) (ci (hR.big (.inl (by omega))).symm) en
  · refine tri_skip ?_
    refine nx (sl 0 rfl (sl 1 rfl sn)) en ?_
    refine tri_seq ?_
    refine tri_seq ?_
    refine tri_reg mixed hcx ?_ _ _
    refine asg rfl ?_
    refine ⟨by kernel_rfl, ?_⟩
    refine nx (sl 0 rfl (sl 1 rfl (sl 5 rfl sn))) en ?_
    refine tri_block ?_
    refine tri_loop (ι := Nat) (fun i => [(0, T.l (cL (cZi k)) b), (1, T.c (.bool true)), (5, T.c (.int .i64 (i : Int)))]) (fun i => []) (fun i => b.length - i) (fun i => (i ≤ b.length) ∧ (∀ j, j < i → (b.getD j []).length ≤ 12 ∧ (true = true → ∀ k2, k2 < (b.getD j []).length → nbits ((b.getD j []).getD k2 0).natAbs ≤ 256))) 0 ⟨Nat.zero_le _, fun j hj => absurd hj (Nat.not_lt_zero _)⟩ (sl 0 rfl (sl 1 rfl (sl 5 rfl sn))) en ?_
    rintro i ⟨hi, hA⟩
    refine tri_sub (sl 0 rfl (sl 1 rfl (sl 5 rfl sn))) en ?_
    refine tri_seq ?_
    refine tri_seq ?_
    refine tri_reg mixed hcx ?_ _ _
    refine mv rfl ?_
    refine mv rfl ?_
    refine ln slZss rfl ?_
    refine clt rfl rfl rfl ?_
    refine ⟨by kernel_rfl, ?_⟩
    refine nx (sl 0 rfl (sl 1 rfl (sl 5 rfl (sl 14 rfl sn)))) en ?_
    refine tri_if rfl (fun hc => ?_) (fun hc => ?_)
    · have hmi : (b.getD i (cL (cZi k)).dflt).length ≤ 1048576 := hrr i (by omega)
      have hmi2 : (b.getD i []).length ≤ 1048576 := hmi
      refine tri_skip ?_
      refine nx (sl 0 rfl (sl 1 rfl (sl 5 rfl sn))) en ?_
      refine tri_seq ?_
      refine tri_block ?_
      refine tri_seq ?_
      refine tri_seq ?_
      refine tri_reg mixed hcx ?_ _ _
      refine mv rfl ?_
      refine mv rfl ?_
      refine ix rfl rfl slZss ⟨rfl, by omega⟩ ?_
      refine lf rfl tyZs ?_
      refine ln slZs rfl ?_
      refine cgt rfl rfl rfl ?_
      refine ⟨by kernel_rfl, ?_⟩
      refine nx (sl 0 rfl (sl 1 rfl (sl 5 rfl (sl 22 rfl sn)))) en ?_
      refine tri_if rfl (fun h2 => ?_) (fun h2 => ?_)
      · refine tri_seq ?_
        refine tri_reg mixed hcx ?_ _ _
        refine asg rfl ?_
        refine ⟨by kernel_rfl, ?_⟩
        refine nx (sl 4 rfl sn) en ?_
        refine tri_ret ?_
        repeat (first | refine pn_thenr ?_ | refine pn_blkr ?_)
        exact ret1 hcx rfl (rv_tmp rfl) (ci (hR.big (.inr (.inr ⟨i, by omega, by have : 12 < ((b.getD i []).length : Int) := h2; omega⟩))).symm) en
      · have h2b : ¬ 12 < ((b.getD i []).length : Int) := h2
        refine tri_skip ?_
        refine nx (sl 0 rfl (sl 1 rfl (sl 5 rfl sn))) en ?_
        refine tri_seq ?_
        refine tri_reg mixed hcx ?_ _ _
        refine asg rfl ?_
        refine ⟨by kernel_rfl, ?_⟩
        refine nx (sl 0 rfl (sl 1 rfl (sl 5 rfl (sl 6 rfl sn)))) en ?_
        refine tri_block ?_
        refine tri_loop (ι := Nat) (fun e => [(0, T.l (cL (cZi k)) b), (1, T.c (.bool true)), (5, T.c (.int .i64 (i : Int))), (6, T.c (.int .i64 (e : Int)))]) (fun e => []) (fun e => (b.getD i []).length - e) (fun e => (e ≤ (b.getD i []).length) ∧ (true = true → ∀ k2, k2 < e → nbits ((b.getD i []).getD k2 0).natAbs ≤ 256)) 0 ⟨Nat.zero_le _, fun _ k2 hk2 => absurd hk2 (Nat.not_lt_zero _)⟩ (sl 0 rfl (sl 1 rfl (sl 5 rfl (sl 6 rfl sn)))) en ?_
        rintro e ⟨he, hB⟩
        refine tri_sub (sl 0 rfl (sl 1 rfl (sl 5 rfl (sl 6 rfl sn)))) en ?_
        refine tri_seq ?_
        refine tri_seq ?_
        refine tri_reg mixed hcx ?_ _ _
        refine mv rfl ?_
        refine mv rfl ?_
        refine mv rfl ?_
        refine ix rfl rfl slZss ⟨rfl, by omega⟩ ?_
        refine lf rfl tyZs ?_
        refine ln slZs rfl ?_
        refine clt rfl rfl rfl ?_
        refine ⟨by kernel_rfl, ?_⟩
        refine nx (sl 0 rfl (sl 1 rfl (sl 5 rfl (sl 6 rfl (sl 29 rfl sn))))) en ?_
        refine tri_if rfl (fun h3 => ?_) (fun h3 => ?_)
        · have h3b : (e : Int) < ((b.getD i []).length : Int) := h3
          refine tri_skip ?_
          refine nx (sl 0 rfl (sl 1 rfl (sl 5 rfl (sl 6 rfl sn)))) en ?_
          refine tri_seq ?_
          refine tri_block ?_
          refine tri_seq ?_
          refine tri_reg mixed hcx ?_ _ _
          refine mv rfl ?_
          refine mv rfl ?_
          refine mv rfl ?_ (hg := gd1)
          refine mv rfl ?_ (hg := gd1)
          refine ix rfl rfl slZss ⟨rfl, by omega⟩ ?_ (hg := gd1)
          refine lf rfl tyZs ?_ (hg := gd1)
          refine mv rfl ?_ (hg := gd1)
          refine ix rfl rfl slZs ⟨rfl, by omega⟩ ?_ (hg := gd1)
          refine ff rfl fMag rfl ?_ (hg := gd1)
          refine lf rfl tyLs ?_ (hg := gd1)
          refine ca rfl (h := r01_Bits (by omega)) (hn := ?_) (hg := gd1)
          refine cgt rfl rfl rfl ?_ (hg := gd1)
          refine pk rfl rfl ?_
          refine ⟨by kernel_rfl, ?_⟩
          refine nx (sl 0 rfl (sl 1 rfl (sl 5 rfl (sl 6 rfl (sl 44 rfl sn))))) en ?_
          refine tri_if rfl (fun h4b => ?_) (fun h4b => ?_)
          · refine tri_seq ?_
            refine tri_reg mixed hcx ?_ _ _
            refine asg rfl ?_
            refine ⟨by kernel_rfl, ?_⟩
            refine nx (sl 4 rfl sn) en ?_
            refine tri_ret ?_
            repeat (first | refine pn_thenr ?_ | refine pn_blkr ?_)
            exact ret1 hcx rfl (rv_tmp rfl) (ci (hR.big (.inr (.inl ⟨rfl, Nat.lt_of_lt_of_le (show 256 < nbits ((b.getD i []).getD e 0).natAbs by have : 256 < ((nbits ((b.getD i []).getD e 0).natAbs : Nat) : Int) := h4b; omega) (matB_at (by omega) (by omega))⟩))).symm) en
          · have h4 : nbits ((b.getD i []).getD e 0).natAbs ≤ 256 := by have : ¬ 256 < ((nbits ((b.getD i []).getD e 0).natAbs : Nat) : Int) := h4b; omega
            refine tri_skip ?_
            refine pn_blk ?_
            refine nx (sl 0 rfl (sl 1 rfl (sl 5 rfl (sl 6 rfl sn)))) en ?_
            refine tri_reg mixed hcx ?_ _ _
            refine mv rfl ?_
            refine ad (((e + 1 : Nat) : Int)) rfl rfl rfl (by omega) ?_
            refine asg rfl ?_
            refine ⟨by kernel_rfl, ?_⟩
            exact pn_back (e + 1) (by first | omega | (dsimp only; omega)) ⟨by omega, fun hq2 k2 hk2 => by rcases Nat.lt_or_eq_of_le (Nat.le_of_lt_succ hk2) with h8 | h8; exact hB hq2 k2 h8; subst h8; exact h4⟩ (sl 0 rfl (sl 1 rfl (sl 5 rfl (sl 6 rfl sn)))) en
        · refine tri_exit ?_
          repeat (first | refine pn_then ?_ | refine pn_oth (by decide) ?_)
          refine pn_ex ?_
          have h5 : ¬ (e : Int) < ((b.getD i []).length : Int) := h3
          refine pn_blk ?_
          refine nx (sl 0 rfl (sl 1 rfl (sl 5 rfl sn))) en ?_
          refine tri_reg mixed hcx ?_ _ _
          refine mv rfl ?_
          refine ad (((i + 1 : Nat) : Int)) rfl rfl rfl (by omega) ?_
          refine asg rfl ?_
          refine ⟨by kernel_rfl, ?_⟩
          exact pn_back (i + 1) (by first | omega | (dsimp only; omega)) ⟨by omega, fun j hj => by rcases Nat.lt_or_eq_of_le (Nat.le_of_lt_succ hj) with h8 | h8; exact hA j h8; subst h8; exact ⟨by omega, fun hq k2 hk2 => hB hq k2 (by omega)⟩⟩ (sl 0 rfl (sl 1 rfl (sl 5 rfl sn))) en
    · refine tri_exit ?_
      repeat (first | refine pn_then ?_ | refine pn_oth (by decide) ?_)
      refine pn_ex ?_
      have hin : i = b.length := by omega
      subst hin
      have hnb : ¬ BigB b true := by rintro (h7 | ⟨h7, h8⟩ | ⟨j, h7, h8⟩); omega; exact absurd (matB_le (N := 256) (n := b.length) fun i hi => (hA i hi).2 h7) (by omega); have := (hA j h7).1; omega
      refine nx (sl 0 rfl sn) en ?_
      refine tri_seq ?_
      refine tri_seq ?_
      refine tri_reg mixed hcx ?_ _ _
      refine mv rfl ?_
      refine ln slZss rfl ?_
      refine ceq rfl rfl rfl ?_
      refine ⟨by kernel_rfl, ?_⟩
      refine nx (sl 0 rfl (sl 47 rfl sn)) en ?_
      refine tri_if rfl (fun h6 => ?_) (fun h6 => ?_)
      · refine tri_seq ?_
        refine tri_reg mixed hcx ?_ _ _
        refine asg rfl ?_
        refine ⟨by kernel_rfl, ?_⟩
        refine nx (sl 4 rfl sn) en ?_
        refine tri_ret ?_
        repeat (first | refine pn_thenr ?_ | refine pn_blkr ?_)
        exact ret1 hcx rfl (rv_tmp rfl) (ci (hR.nil hnb (by omega)).symm) en
      · refine tri_skip ?_
        refine nx (sl 0 rfl sn) en ?_
        refine tri_seq ?_
        refine tri_seq ?_
        refine tri_reg mixed hcx ?_ _ _
        refine asg rfl ?_
        refine ⟨by kernel_rfl, ?_⟩
        refine nx (sl 0 rfl (sl 7 rfl sn)) en ?_
        refine tri_block ?_
        refine tri_loop (ι := Nat) (fun i => [(0, T.l (cL (cZi k)) b), (7, T.c (.int .i64 (i : Int)))]) (fun i => []) (fun i => b.length - i) (fun i => (i ≤ b.length) ∧ (∀ j, j < i → (b.getD j []).length = (b.getD 0 []).length)) 0 ⟨Nat.zero_le _, fun j hj => absurd hj (Nat.not_lt_zero _)⟩ (sl 0 rfl (sl 7 rfl sn)) en ?_
        rintro i ⟨hi, hC⟩
        refine tri_sub (sl 0 rfl (sl 7 rfl sn)) en ?_
        refine tri_seq ?_
        refine tri_seq ?_
        refine tri_reg mixed hcx ?_ _ _
        refine mv rfl ?_
        refine mv rfl ?_
        refine ln slZss rfl ?_
        refine clt rfl rfl rfl ?_
        refine ⟨by kernel_rfl, ?_⟩
        refine nx (sl 0 rfl (sl 7 rfl (sl 51 rfl sn))) en ?_
        refine tri_if rfl (fun hd => ?_) (fun hd => ?_)
        · have hmi : (b.getD i (cL (cZi k)).dflt).length ≤ 1048576 := hrr i (by omega)
          have hm0 : (b.getD 0 (cL (cZi k)).dflt).length ≤ 1048576 := hrr 0 (by omega)
          refine tri_skip ?_
          refine nx (sl 0 rfl (sl 7 rfl sn)) en ?_
          refine tri_seq ?_
          refine tri_block ?_
          refine tri_seq ?_
          refine tri_reg mixed hcx ?_ _ _
          refine mv rfl ?_
          refine mv rfl ?_
          refine ix rfl rfl slZss ⟨rfl, by omega⟩ ?_
          refine lf rfl tyZs ?_
          refine ln slZs rfl ?_
          refine mv rfl ?_
          refine ix rfl rfl slZss ⟨(rfl : _ = ((0 : Nat) : Int)), by omega⟩ ?_
          refine lf rfl tyZs ?_
          refine ln slZs rfl ?_
          refine cne rfl rfl rfl ?_
          refine ⟨by kernel_rfl, ?_⟩
          refine nx (sl 0 rfl (sl 7 rfl (sl 63 rfl sn))) en ?_
          refine tri_if rfl (fun h10 => ?_) (fun h10 => ?_)
          · refine tri_seq ?_
            refine tri_reg mixed hcx ?_ _ _
            refine asg rfl ?_
            refine ⟨by kernel_rfl, ?_⟩
            refine nx (sl 4 rfl sn) en ?_
            refine tri_ret ?_
            repeat (first | refine pn_thenr ?_ | refine pn_blkr ?_)
            exact ret1 hcx rfl (rv_tmp rfl) (ci (hR.bad hnb (by omega) ⟨i, by omega, fun e => h10 (congrArg (fun n : Nat => (n : Int)) e)⟩).symm) en
          · have h11 : (b.getD i []).length = (b.getD 0 []).length := Int.ofNat_inj.1 (Decidable.not_not.1 h10)
            refine tri_skip ?_
            refine pn_blk ?_
            refine nx (sl 0 rfl (sl 7 rfl sn)) en ?_
            refine tri_reg mixed hcx ?_ _ _
            refine mv rfl ?_
            refine ad (((i + 1 : Nat) : Int)) rfl rfl rfl (by omega) ?_
            refine asg rfl ?_
            refine ⟨by kernel_rfl, ?_⟩
            exact pn_back (i + 1) (by first | omega | (dsimp only; omega)) ⟨by omega, fun j hj => by rcases Nat.lt_or_eq_of_le (Nat.le_of_lt_succ hj) with h8 | h8; exact hC j h8; subst h8; exact h11⟩ (sl 0 rfl (sl 7 rfl sn)) en
        · refine tri_exit ?_
          repeat (first | refine pn_then ?_ | refine pn_oth (by decide) ?_)
          refine pn_ex ?_
          have hin : i = b.length := by omega
          subst hin
          refine nx sn en ?_
          refine tri_seq ?_
          refine tri_reg mixed hcx ?_ _ _
          refine asg rfl ?_
          refine ⟨by kernel_rfl, ?_⟩
          refine nx (sl 4 rfl sn) en ?_
          refine tri_ret ?_
          repeat (first | refine pn_thenr ?_ | refine pn_blkr ?_)
          exact ret1 hcx rfl (rv_tmp rfl) (ci (hR.ok hnb (by omega) (fun ⟨j, h8, h9⟩ => h9 (hC j h8))).symm) en

theorem r05_shape_f {b : List (List Int)} {k : Nat} {r : Int} (hk : k ≤ 1048576) (hbl : b.length ≤ 1048576) (hrr : ∀ i, i < b.length → (b.getD i []).length ≤ 1048576) (hR : ShR b false r) : Fn Try.prog 133 [T.l (cL (cZi k)) b, T.c (.bool false)] [] [] [] (T.c (.int .i64 r)) := by
  refine fn_of Try.func133 rfl (by show 2 ≤ 64; decide) fun cx hcx => ?_
  refine tri_sub (sl 0 rfl (sl 1 rfl sn)) en ?_
  refine tri_seq ?_
  refine tri_reg mixed hcx ?_ _ _
  refine asg rfl ?_
  refine ⟨by kernel_rfl, ?_⟩
  refine nx (sl 0 rfl (sl 1 rfl sn)) en ?_
  refine tri_seq ?_
  refine tri_seq ?_
  refine tri_reg mixed hcx ?_ _ _
  refine mv rfl ?_
  refine ln slZss rfl ?_
  refine cgt rfl rfl rfl ?_
  refine ⟨by kernel_rfl, ?_⟩
  refine nx (sl 0 rfl (sl 1 rfl (sl 10 rfl sn))) en ?_
  refine tri_if rfl (fun h1 => ?_) (fun h1 => ?_)
  · refine tri_seq ?_
    refine tri_reg mixed hcx ?_ _ _
    refine asg rfl ?_
    refine ⟨by kernel_rfl, ?_⟩
    refine nx (sl 4 rfl sn) en ?_
    refine tri_ret ?_
    repeat (first | refine pn_thenr ?_ | refine pn_blkr ?_)
    exact ret1 hcx rfl (rv_tmp rfl) (ci (hR.big (.inl (by omega))).symm) en
  · refine tri_skip ?_
    refine nx (sl 0 rfl (sl 1 rfl sn)) en ?_
    refine tri_seq ?_
    refine tri_seq ?_
    refine tri_reg mixed hcx ?_ _ _
    refine asg rfl ?_
    refine ⟨by kernel_rfl, ?_⟩
    refine nx (sl 0 rfl (sl 1 rfl (sl 5 rfl sn))) en ?_
    refine tri_block ?_
    refine tri_loop (ι := Nat) (fun i => [(0, T.l (cL (cZi k)) b), (1, T.c (.bool false)), (5, T.c (.int .i64 (i : Int)))]) (fun i => []) (fun i => b.length - i) (fun i => (i ≤ b.length) ∧ (∀ j, j < i → (b.getD j []).length ≤ 12 ∧ (false = true → ∀ k2, k2 < (b.getD j []).length → nbits ((b.getD j []).getD k2 0).natAbs ≤ 256))) 0 ⟨Nat.zero_le _, fun j hj => absurd hj (Nat.not_lt_zero _)⟩ (sl 0 rfl (sl 1 rfl (sl 5 rfl sn))) en ?_
    rintro i ⟨hi, hA⟩
    refine tri_sub (sl 0 rfl (sl 1 rfl (sl 5 rfl sn))) en ?_
    refine tri_seq ?_
    refine tri_seq ?_
    refine tri_reg mixed hcx ?_ _ _
    refine mv rfl ?_
    refine mv rfl ?_
    refine ln slZss rfl ?_
    refine clt rfl rfl rfl ?_
    refine ⟨by kernel_rfl, ?_⟩
    refine nx (sl 0 rfl (sl 1 rfl (sl 5 rfl (sl 14 rfl sn)))) en ?_
    refine tri_if rfl (fun hc => ?_) (fun hc => ?_)
    · have hmi : (b.getD i (cL (cZi k)).dflt).length ≤ 1048576 := hrr i (by omega)
      have hmi2 : (b.getD i []).length ≤ 1048576 := hmi
      refine tri_skip ?_
      refine nx (sl 0 rfl (sl 1 rfl (sl 5 rfl sn))) en ?_
      refine tri_seq ?_
      refine tri_block ?_
      refine tri_seq ?_
      refine tri_seq ?_
      refine tri_reg mixed hcx ?_ _ _
      refine mv rfl ?_
      refine mv rfl ?_
      refine ix rfl rfl slZss ⟨rfl, by omega⟩ ?_
      refine lf rfl tyZs ?_
      refine ln slZs rfl ?_
      refine cgt rfl rfl rfl ?_
      refine ⟨by kernel_rfl, ?_⟩
      refine nx (sl 0 rfl (sl 1 rfl (sl 5 rfl (sl 22 rfl sn)))) en ?_
      refine tri_if rfl (fun h2 => ?_) (fun h2 => ?_)
      · refine tri_seq ?_
        refine tri_reg mixed hcx ?_ _ _
        refine asg rfl ?_
        refine ⟨by kernel_rfl, ?_⟩
        refine nx (sl 4 rfl sn) en ?_
        refine tri_ret ?_
        repeat (first | refine pn_thenr ?_ | refine pn_blkr ?_)
        exact ret1 hcx rfl (rv_tmp rfl) (ci (hR.big (.inr (.inr ⟨i, by omega, by have : 12 < ((b.getD i []).length : Int) := h2; omega⟩))).symm) en
      · have h2b : ¬ 12 < ((b.getD i []).length : Int) := h2
        refine tri_skip ?_
        refine nx (sl 0 rfl (sl 1 rfl (sl 5 rfl sn))) en ?_
        refine tri_seq ?_
        refine tri_reg mixed hcx ?_ _ _
        refine asg rfl ?_
        refine ⟨by kernel_rfl, ?_⟩
        refine nx (sl 0 rfl (sl 1 rfl (sl 5 rfl (sl 6 rfl sn)))) en ?_
        refine tri_block ?_
        refine tri_loop (ι := Nat) (fun e => [(0, T.l (cL (cZi k)) b), (1, T.c (.bool false)), (5, T.c (.int .i64 (i : Int))), (6, T.c (.int .i64 (e : Int)))]) (fun e => []) (fun e => (b.getD i []).length - e) (fun e => (e ≤ (b.getD i []).length) ∧ (false = true → ∀ k2, k2 < e → nbits ((b.getD i []).getD k2 0).natAbs ≤ 256)) 0 ⟨Nat.zero_le _, fun _ k2 hk2 => absurd hk2 (Nat.not_lt_zero _)⟩ (sl 0 rfl (sl 1 rfl (sl 5 rfl (sl 6 rfl sn)))) en ?_
        rintro e ⟨he, hB⟩
        refine tri_sub (sl 0 rfl (sl 1 rfl (sl 5 rfl (sl 6 rfl sn)))) en ?_
        refine tri_seq ?_
        refine tri_seq ?_
        refine tri_reg mixed hcx ?_ _ _
        refine mv rfl ?_
        refine mv rfl ?_
        refine mv rfl ?_
        refine ix rfl rfl slZss ⟨rfl, by omega⟩ ?_
        refine lf rfl tyZs ?_
        refine ln slZs rfl ?_
        refine clt rfl rfl rfl ?_
        refine ⟨by kernel_rfl, ?_⟩
        refine nx (sl 0 rfl (sl 1 rfl (sl 5 rfl (sl 6 rfl (sl 29 rfl sn))))) en ?_
        refine tri_if rfl (fun h3 => ?_) (fun h3 => ?_)
        · have h3b : (e : Int) < ((b.getD i []).length : Int) := h3
          refine tri_skip ?_
          refine nx (sl 0 rfl (sl 1 rfl (sl 5 rfl (sl 6 rfl sn)))) en ?_
          refine tri_seq ?_
          refine tri_block ?_
          refine tri_seq ?_
          refine tri_reg mixed hcx ?_ _ _
          refine mv rfl ?_
          refine mv rfl ?_
          refine j_off rfl rfl rfl rfl ?_
          refine j_off rfl rfl rfl rfl ?_
          refine j_off rfl rfl rfl rfl ?_
          refine j_off rfl rfl rfl rfl ?_
          refine j_off rfl rfl rfl rfl ?_
          refine j_off rfl rfl rfl rfl ?_
          refine j_off rfl rfl rfl rfl ?_
          refine j_off rfl rfl rfl rfl ?_
          refine j_off rfl rfl rfl rfl ?_
          refine j_off rfl rfl rfl rfl ?_
          refine pk rfl rfl ?_
          refine ⟨by kernel_rfl, ?_⟩
          refine nx (sl 0 rfl (sl 1 rfl (sl 5 rfl (sl 6 rfl (sl 44 rfl sn))))) en ?_
          refine tri_false rfl rfl ?_
          refine tri_skip ?_
          refine pn_blk ?_
          refine nx (sl 0 rfl (sl 1 rfl (sl 5 rfl (sl 6 rfl sn)))) en ?_
          refine tri_reg mixed hcx ?_ _ _
          refine mv rfl ?_
          refine ad (((e + 1 : Nat) : Int)) rfl rfl rfl (by omega) ?_
          refine asg rfl ?_
          refine ⟨by kernel_rfl, ?_⟩
          exact pn_back (e + 1) (by first | omega | (dsimp only; omega)) ⟨by omega, fun hq2 => (by cases hq2)⟩ (sl 0 rfl (sl 1 rfl (sl 5 rfl (sl 6 rfl sn)))) en
        · refine tri_exit ?_
          repeat (first | refine pn_then ?_ | refine pn_oth (by decide) ?_)
          refine pn_ex ?_
          have h5 : ¬ (e : Int) < ((b.getD i []).length : Int) := h3
          refine pn_blk ?_
          refine nx (sl 0 rfl (sl 1 rfl (sl 5 rfl sn))) en ?_
          refine tri_reg mixed hcx ?_ _ _
          refine mv rfl ?_
          refine ad (((i + 1 : Nat) : Int)) rfl rfl rfl (by omega) ?_
          refine asg rfl ?_
          refine ⟨by kernel_rfl, ?_⟩
          exact pn_back (i + 1) (by first | omega | (dsimp only; omega)) ⟨by omega, fun j hj => by rcases Nat.lt_or_eq_of_le (Nat.le_of_lt_succ hj) with h8 | h8; exact hA j h8; subst h8; exact ⟨by omega, fun hq k2 hk2 => hB hq k2 (by omega)⟩⟩ (sl 0 rfl (sl 1 rfl (sl 5 rfl sn))) en
    · refine tri_exit ?_
      repeat (first | refine pn_then ?_ | refine pn_oth (by decide) ?_)
      refine pn_ex ?_
      have hin : i = b.length := by omega
      subst hin
      have hnb : ¬ BigB b false := by rintro (h7 | ⟨h7, h8⟩ | ⟨j, h7, h8⟩); omega; exact absurd (matB_le (N := 256) (n := b.length) fun i hi => (hA i hi).2 h7) (by omega); have := (hA j h7).1; omega
      refine nx (sl 0 rfl sn) en ?_
      refine tri_seq ?_
      refine tri_seq ?_
      refine tri_reg mixed hcx ?_ _ _
      refine mv rfl ?_
      refine ln slZss rfl ?_
      refine ceq rfl rfl rfl ?_
      refine ⟨by kernel_rfl, ?_⟩
      refine nx (sl 0 rfl (sl 47 rfl sn)) en ?_
      refine tri_if rfl (fun h6 => ?_) (fun h6 => ?_)
      · refine tri_seq ?_
        refine tri_reg mixed hcx ?_ _ _
        refine asg rfl ?_
        refine ⟨by kernel_rfl, ?_⟩
        refine nx (sl 4 rfl sn) en ?_
        refine tri_ret ?_
        repeat (first | refine pn_thenr ?_ | refine pn_blkr ?_)
        exact ret1 hcx rfl (rv_tmp rfl) (ci (hR.nil hnb (by omega)).symm) en
      · refine tri_skip ?_
        refine nx (sl 0 rfl sn) en ?_
        refine tri_seq ?_
        refine tri_seq ?_
        refine tri_reg mixed hcx ?_ _ _
        refine asg rfl ?_
        refine ⟨by kernel_rfl, ?_⟩
        refine nx (sl 0 rfl (sl 7 rfl sn)) en ?_
        refine tri_block ?_
        refine tri_loop (ι := Nat) (fun i => [(0, T.l (cL (cZi k)) b), (7, T.c (.int .i64 (i : Int)))]) (fun i => []) (fun i => b.length - i) (fun i => (i ≤ b.length) ∧ (∀ j, j < i → (b.getD j []).length = (b.getD 0 []).length)) 0 ⟨Nat.zero_le _, fun j hj => absurd hj (Nat.not_lt_zero _)⟩ (sl 0 rfl (sl 7 rfl sn)) en ?_
        rintro i ⟨hi, hC⟩
        refine tri_sub (sl 0 rfl (sl 7 rfl sn)) en ?_
        refine tri_seq ?_
        refine tri_seq ?_
        refine tri_reg mixed hcx ?_ _ _
        refine mv rfl ?_
        refine mv rfl ?_
        refine ln slZss rfl ?_
        refine clt rfl rfl rfl ?_
        refine ⟨by kernel_rfl, ?_⟩
        refine nx (sl 0 rfl (sl 7 rfl (sl 51 rfl sn))) en ?_
        refine tri_if rfl (fun hd => ?_) (fun hd => ?_)
        · have hmi : (b.getD i (cL (cZi k)).dflt).length ≤ 1048576 := hrr i (by omega)
          have hm0 : (b.getD 0 (cL (cZi k)).dflt).length ≤ 1048576 := hrr 0 (by omega)
          refine tri_skip ?_
          refine nx (sl 0 rfl (sl 7 rfl sn)) en ?_
          refine tri_seq ?_
          refine tri_block ?_
          refine tri_seq ?_
          refine tri_reg mixed hcx ?_ _ _
          refine mv rfl ?_
          refine mv rfl ?_
          refine ix rfl rfl slZss ⟨rfl, by omega⟩ ?_
          refine lf rfl tyZs ?_
          refine ln slZs rfl ?_
          refine mv rfl ?_
          refine ix rfl rfl slZss ⟨(rfl : _ = ((0 : Nat) : Int)), by omega⟩ ?_
          refine lf rfl tyZs ?_
          refine ln slZs rfl ?_
          refine cne rfl rfl rfl ?_
          refine ⟨by kernel_rfl, ?_⟩
          refine nx (sl 0 rfl (sl 7 rfl (sl 63 rfl sn))) en ?_
          refine tri_if rfl (fun h10 => ?_) (fun h10 => ?_)
          · refine tri_seq ?_
            refine tri_reg mixed hcx ?_ _ _
            refine asg rfl ?_
            refine ⟨by kernel_rfl, ?_⟩
            refine nx (sl 4 rfl sn) en ?_
            refine tri_ret ?_
            repeat (first | refine pn_thenr ?_ | refine pn_blkr ?_)
            exact ret1 hcx rfl (rv_tmp rfl) (ci (hR.bad hnb (by omega) ⟨i, by omega, fun e => h10 (congrArg (fun n : Nat => (n : Int)) e)⟩).symm) en
          · have h11 : (b.getD i []).length = (b.getD 0 []).length := Int.ofNat_inj.1 (Decidable.not_not.1 h10)
            refine tri_skip ?_
            refine pn_blk ?_
            refine nx (sl 0 rfl (sl 7 rfl sn)) en ?_
            refine tri_reg mixed hcx ?_ _ _
            refine mv rfl ?_
            refine ad (((i + 1 : Nat) : Int)) rfl rfl rfl (by omega) ?_
            refine asg rfl ?_
            refine ⟨by kernel_rfl, ?_⟩
            exact pn_back (i + 1) (by first | omega | (dsimp only; omega)) ⟨by omega, fun j hj => by rcases Nat.lt_or_eq_of_le (Nat.le_of_lt_succ hj) with h8 | h8; exact hC j h8; subst h8; exact h11⟩ (sl 0 rfl (sl 7 rfl sn)) en
        · refine tri_exit ?_
          repeat (first | refine pn_then ?_ | refine pn_oth (by decide) ?_)
          refine pn_ex ?_
          have hin : i = b.length := by omega
          subst hin
          refine nx sn en ?_
          refine tri_seq ?_
          refine tri_reg mixed hcx ?_ _ _
          refine asg rfl ?_
          refine ⟨by kernel_rfl, ?_⟩
          refine nx (sl 4 rfl sn) en ?_
          refine tri_ret ?_
          repeat (first | refine pn_thenr ?_ | refine pn_blkr ?_)
          exact ret1 hcx rfl (rv_tmp rfl) (ci (hR.ok hnb (by omega) (fun ⟨j, h8, h9⟩ => h9 (hC j h8))).symm) en

theorem g_built_no {b : List (List Int)} {kb m S K : Nat} (h : bld b b.length = none) (hbl : b.length ≤ 12) (hm : ∀ i, i < b.length → (b.getD i []).length = m) (hmm : m ≤ 1048576) (hkb : kb ≤ 1048576) (hS : ∀ i j, i < b.length → j ≤ i → zl (dotU (b.getD i []) (b.getD j []) (b.getD i []).length) ≤ S) (hK1 : bd S 12 ≤ K) (hK2 : K ≤ 137438953472) (hK3 : 2 ≤ K) : Fn Try.prog 132 [T.l (cL (cZi kb)) b] [] [] [] (T.tup [T.st [T.c (.slice none 0 0), T.c (.slice none 0 0)], T.c (.bool false)]) := by
  refine fn_of Try.func132 rfl (by show 1 ≤ 114; decide) fun cx hcx => ?_
  refine tri_sub (sl 0 rfl sn) en ?_
  have hmb : ∀ i, i < b.length → zl (dotU (b.getD i []) (b.getD i []) (b.getD i []).length) ≤ S := fun i hi => hS i i hi (Nat.le_refl _)
  have hSK : S ≤ K := Nat.le_trans (by have := bd_mono (S := S) (Nat.zero_le 12); rwa [bd_zero] at this) hK1
  refine tri_seq ?_
  refine tri_reg mixed hcx ?_ _ _
  refine nw 10 zeG ?_
  refine asg rfl ?_
  refine ⟨by kernel_rfl, ?_⟩
  refine nx (sl 0 rfl (sl 2 rfl sn)) (el 10 rfl en) ?_
  refine tri_seq ?_
  refine tri_reg mixed hcx ?_ _ _
  refine ca rfl (h := zi_Of (by omega) (by omega)) (hn := ?_)
  refine bso (c := cZ K) (xs := [1]) 111 slZs rfl ⟨z_up (by omega), trivial⟩ ?_
  refine bu stG rfl ?_
  refine nw 113 zeG ?_
  refine sts rfl rfl rfl tyG rfl ?_
  refine ⟨by kernel_rfl, ?_⟩
  refine nx (sl 0 rfl (sl 2 rfl (sl 4 rfl sn))) (el 10 rfl (el 111 rfl (el 113 rfl (el 113 rfl en)))) ?_
  refine tri_seq ?_
  refine tri_seq ?_
  refine tri_nilb (cL (cZ K)) 24 (bl := [T.o 111, T.c (.slice none 0 0)]) (bl' := [T.o 111, T.o 9]) 113 9 rfl ⟨.inl ⟨rfl, by show 9 ∉ [111]; decide⟩, .inr ⟨rfl, rfl⟩, trivial⟩ (by rw [hcx]; kernel_rfl) ?_
  refine tri_reg mixed hcx ?_ _ _
  refine mv rfl ?_
  refine ln slZss rfl ?_
  refine mv rfl ?_
  refine ⟨by kernel_rfl, ?_⟩
  refine nx (sl 0 rfl (sl 2 rfl (sl 4 rfl (sl 16 rfl (sl 17 rfl sn))))) (el 10 rfl (el 111 rfl (el 113 rfl (el 113 rfl (el 9 rfl en))))) ?_
  refine tri_block ?_
  refine tri_loop (ι := Nat × List Int × List (List Int)) (fun (i, D, L) => [(0, T.l (cL (cZi kb)) b), (2, T.p 10 0), (4, T.p 113 0), (16, T.c (.int .i64 (b.length : Int))), (17, T.c (.int .i64 (i : Int)))]) (fun (i, D, L) => [(10, some (Ent.box 26 [T.c (.slice none 0 0), T.c (.slice none 0 0)])), (111, some (Ent.row (cZ K) 44 (D))), (9, some (Ent.row (cL (cZ K)) 24 (L))), (113, some (Ent.box 26 [T.o 111, T.o 9]))]) (fun (i, D, L) => b.length - i) (fun (i, D, L) => (i ≤ b.length) ∧ (bld b i = some (D, L)) ∧ (BI S i D L)) (0, [1], []) ⟨Nat.zero_le _, rfl, BI.zero S⟩ (sl 0 rfl (sl 2 rfl (sl 4 rfl (sl 16 rfl (sl 17 rfl sn))))) (el 10 rfl (el 111 rfl (el 9 rfl (el 113 rfl en)))) ?_
  rintro ⟨i, D, L⟩ ⟨hi, hb, hB⟩
  refine tri_sub (sl 0 rfl (sl 2 rfl (sl 4 rfl (sl 16 rfl (sl 17 rfl sn))))) (el 10 rfl (el 111 rfl (el 9 rfl (el 113 rfl en)))) ?_
  refine tri_seq ?_
  refine tri_reg mixed hcx ?_ _ _
  refine clt rfl rfl rfl ?_
  refine ⟨by kernel_rfl, ?_⟩
  refine nx (sl 0 rfl (sl 2 rfl (sl 4 rfl (sl 16 rfl (sl 17 rfl (sl 18 rfl sn)))))) (el 10 rfl (el 111 rfl (el 9 rfl (el 113 rfl en)))) ?_
  refine tri_seq ?_
  refine tri_if rfl (fun hc => ?_) (fun hc => ?_)
  · have hmi : (b.getD i (cL (cZi kb)).dflt).length = m := hm i (by omega)
    have hDl := hB.hD; have hLl := hB.hL
    refine tri_skip ?_
    refine nx (sl 0 rfl (sl 2 rfl (sl 4 rfl (sl 16 rfl (sl 17 rfl sn))))) (el 10 rfl (el 111 rfl (el 9 rfl (el 113 rfl en)))) ?_
    refine tri_seq ?_
    refine tri_block ?_
    refine tri_seq ?_
    refine tri_reg mixed hcx ?_ _ _
    refine mv rfl ?_
    refine asg rfl ?_
    refine ⟨by kernel_rfl, ?_⟩
    refine nx (sl 0 rfl (sl 2 rfl (sl 4 rfl (sl 5 rfl (sl 16 rfl (sl 17 rfl sn)))))) (el 10 rfl (el 111 rfl (el 9 rfl (el 113 rfl en)))) ?_
    refine tri_seq ?_
    refine tri_reg mixed hcx ?_ _ _
    refine mv rfl ?_
    refine ad (((i + 1 : Nat) : Int)) rfl rfl rfl (by omega) ?_
    refine mk0 (c := (cZ K)) (n := i + 1) 512 slZs rfl rfl (by omega) (by decide) ?_
    refine asg rfl ?_
    refine ⟨by kernel_rfl, ?_⟩
    refine nx (sl 0 rfl (sl 2 rfl (sl 4 rfl (sl 5 rfl (sl 6 rfl (sl 16 rfl (sl 17 rfl sn))))))) (el 10 rfl (el 111 rfl (el 9 rfl (el 113 rfl (el 512 rfl en))))) ?_
    refine tri_seq ?_
    refine tri_seq ?_
    refine tri_reg mixed hcx ?_ _ _
    refine asg rfl ?_
    refine ⟨by kernel_rfl, ?_⟩
    refine nx (sl 0 rfl (sl 2 rfl (sl 4 rfl (sl 5 rfl (sl 6 rfl (sl 7 rfl (sl 16 rfl (sl 17 rfl sn)))))))) (el 10 rfl (el 111 rfl (el 9 rfl (el 113 rfl (el 512 rfl en))))) ?_
    refine tri_block ?_
    refine tri_loop (ι := Nat) (fun j => [(0, T.l (cL (cZi kb)) b), (2, T.p 10 0), (4, T.p 113 0), (5, T.c (.int .i64 (i : Int))), (6, T.o 512), (7, T.c (.int .i64 (j : Int))), (16, T.c (.int .i64 (b.length : Int))), (17, T.c (.int .i64 (i : Int)))]) (fun j => [(10, some (Ent.box 26 [T.c (.slice none 0 0), T.c (.slice none 0 0)])), (111, some (Ent.row (cZ K) 44 (D))), (9, some (Ent.row (cL (cZ K)) 24 (L))), (113, some (Ent.box 26 [T.o 111, T.o 9])), (512, some (Ent.row (cZ K) 44 ((rowU b D L i j))))]) (fun j => i + 1 - j) (fun j => (j ≤ i + 1) ∧ (RI S j (rowU b D L i j))) 0 ⟨Nat.zero_le _, RI.zero S⟩ (sl 0 rfl (sl 2 rfl (sl 4 rfl (sl 5 rfl (sl 6 rfl (sl 7 rfl (sl 16 rfl (sl 17 rfl sn)))))))) (el 10 rfl (el 111 rfl (el 9 rfl (el 113 rfl (el 512 rfl en))))) ?_
    rintro j ⟨hj, hR⟩
    refine tri_sub (sl 0 rfl (sl 2 rfl (sl 4 rfl (sl 5 rfl (sl 6 rfl (sl 7 rfl (sl 16 rfl (sl 17 rfl sn)))))))) (el 10 rfl (el 111 rfl (el 9 rfl (el 113 rfl (el 512 rfl en))))) ?_
    refine tri_seq ?_
    refine tri_seq ?_
    refine tri_reg mixed hcx ?_ _ _
    refine mv rfl ?_
    refine mv rfl ?_
    refine cle rfl rfl rfl ?_
    refine ⟨by kernel_rfl, ?_⟩
    refine nx (sl 0 rfl (sl 2 rfl (sl 4 rfl (sl 5 rfl (sl 6 rfl (sl 7 rfl (sl 16 rfl (sl 17 rfl (sl 25 rfl sn))))))))) (el 10 rfl (el 111 rfl (el 9 rfl (el 113 rfl (el 512 rfl en))))) ?_
    refine tri_if rfl (fun hd => ?_) (fun hd => ?_)
    · have hmj : (b.getD j (cL (cZi kb)).dflt).length = m := hm j (by omega)
      have hRl := hR.len
      refine tri_skip ?_
      refine nx (sl 0 rfl (sl 2 rfl (sl 4 rfl (sl 5 rfl (sl 6 rfl (sl 7 rfl (sl 16 rfl (sl 17 rfl sn)))))))) (el 10 rfl (el 111 rfl (el 9 rfl (el 113 rfl (el 512 rfl en))))) ?_
      refine tri_seq ?_
      refine tri_block ?_
      refine tri_seq ?_
      refine tri_reg mixed hcx ?_ _ _
      refine mv rfl ?_
      refine mv rfl ?_
      refine ix rfl rfl slZss ⟨rfl, by omega⟩ ?_
      refine lf rfl tyZs ?_
      refine mv rfl ?_
      refine mv rfl ?_
      refine ix rfl rfl slZss ⟨rfl, by omega⟩ ?_
      refine lf rfl tyZs ?_
      refine ca rfl (h := mat_Dot (by omega) (by omega) (by omega) (by omega)) (hn := ?_)
      refine mv rfl ?_
      refine ex rfl rfl ?_
      refine ex rfl rfl ?_
      refine nw 922 zeZ ?_
      refine st rfl rfl rfl tyZ rfl ?_
      refine asg rfl ?_
      refine ⟨by kernel_rfl, ?_⟩
      refine nx (sl 0 rfl (sl 2 rfl (sl 4 rfl (sl 5 rfl (sl 6 rfl (sl 7 rfl (sl 8 rfl (sl 16 rfl (sl 17 rfl sn))))))))) (el 10 rfl (el 111 rfl (el 9 rfl (el 113 rfl (el 512 rfl (el 922 rfl en)))))) ?_
      refine tri_seq ?_
      refine tri_seq ?_
      refine tri_bz 922 rfl fun hz0 => ?_
      have hzS : zl (dotU (b.getD i []) (b.getD j []) (b.getD i []).length) ≤ S := hS i j (by omega) (by omega)
      refine tri_reg mixed hcx ?_ _ _
      refine asg rfl ?_
      refine ⟨by kernel_rfl, ?_⟩
      refine nx (sl 0 rfl (sl 2 rfl (sl 4 rfl (sl 5 rfl (sl 6 rfl (sl 7 rfl (sl 8 rfl (sl 10 rfl (sl 16 rfl (sl 17 rfl sn)))))))))) (el 10 rfl (el 111 rfl (el 9 rfl (el 113 rfl (el 512 rfl (el 922 rfl en)))))) ?_
      refine tri_block ?_
      refine tri_loop (ι := Nat) (fun q => [(0, T.l (cL (cZi kb)) b), (2, T.p 10 0), (4, T.p 113 0), (5, T.c (.int .i64 (i : Int))), (6, T.o 512), (7, T.c (.int .i64 (j : Int))), (8, T.p 922 0), (10, T.c (.int .i64 (q : Int))), (16, T.c (.int .i64 (b.length : Int))), (17, T.c (.int .i64 (i : Int)))]) (fun q => [(10, some (Ent.box 26 [T.c (.slice none 0 0), T.c (.slice none 0 0)])), (111, some (Ent.row (cZ K) 44 (D))), (9, some (Ent.row (cL (cZ K)) 24 (L))), (113, some (Ent.box 26 [T.o 111, T.o 9])), (512, some (Ent.row (cZ K) 44 ((rowU b D L i j)))), (922, some (Ent.box 44 [T.Z (redU D (pickL L (rowU b D L i j) i j) (rowU b D L i j) (dotU (b.getD i []) (b.getD j []) (b.getD i []).length) q) K]))]) (fun q => j - q) (fun q => (q ≤ j)) 0 (Nat.zero_le _) (sl 0 rfl (sl 2 rfl (sl 4 rfl (sl 5 rfl (sl 6 rfl (sl 7 rfl (sl 8 rfl (sl 10 rfl (sl 16 rfl (sl 17 rfl sn)))))))))) (el 10 rfl (el 111 rfl (el 9 rfl (el 113 rfl (el 512 rfl (ew 922 rfl (box_pack1 (show (T.Z _ _).le (T.Z (dotU (b.getD i []) (b.getD j []) (b.getD i []).length) K) from z_as (Nat.le_trans hzS hSK))) en)))))) ?_
      rintro q hq
      refine tri_sub (sl 0 rfl (sl 2 rfl (sl 4 rfl (sl 5 rfl (sl 6 rfl (sl 7 rfl (sl 8 rfl (sl 10 rfl (sl 16 rfl (sl 17 rfl sn)))))))))) (el 10 rfl (el 111 rfl (el 9 rfl (el 113 rfl (el 512 rfl (el 922 rfl en)))))) ?_
      refine tri_seq ?_
      refine tri_seq ?_
      refine tri_reg mixed hcx ?_ _ _
      refine mv rfl ?_
      refine mv rfl ?_
      refine clt rfl rfl rfl ?_
      refine ⟨by kernel_rfl, ?_⟩
      refine nx (sl 0 rfl (sl 2 rfl (sl 4 rfl (sl 5 rfl (sl 6 rfl (sl 7 rfl (sl 8 rfl (sl 10 rfl (sl 16 rfl (sl 17 rfl (sl 42 rfl sn))))))))))) (el 10 rfl (el 111 rfl (el 9 rfl (el 113 rfl (el 512 rfl (el 922 rfl en)))))) ?_
      refine tri_if rfl (fun he => ?_) (fun he => ?_)
      · have hDq : D.getD q (cZ K).dflt ≠ 0 := Int.ne_of_gt (hB.pos q (by omega))
        refine tri_skip ?_
        refine nx (sl 0 rfl (sl 2 rfl (sl 4 rfl (sl 5 rfl (sl 6 rfl (sl 7 rfl (sl 8 rfl (sl 10 rfl (sl 16 rfl (sl 17 rfl sn)))))))))) (el 10 rfl (el 111 rfl (el 9 rfl (el 113 rfl (el 512 rfl (el 922 rfl en)))))) ?_
        refine tri_seq ?_
        refine tri_block ?_
        refine tri_seq ?_
        refine tri_reg mixed hcx ?_ _ _
        refine mv rfl ?_
        refine asg rfl ?_
        refine ⟨by kernel_rfl, ?_⟩
        refine nx (sl 0 rfl (sl 2 rfl (sl 4 rfl (sl 5 rfl (sl 6 rfl (sl 7 rfl (sl 8 rfl (sl 10 rfl (sl 11 rfl (sl 16 rfl (sl 17 rfl sn))))))))))) (el 10 rfl (el 111 rfl (el 9 rfl (el 113 rfl (el 512 rfl (el 922 rfl en)))))) ?_
        refine tri_seq ?_
        refine tri_seq ?_
        refine tri_reg mixed hcx ?_ _ _
        refine mv rfl ?_
        refine mv rfl ?_
        refine clt rfl rfl rfl ?_
        refine ⟨by kernel_rfl, ?_⟩
        refine nx (sl 0 rfl (sl 2 rfl (sl 4 rfl (sl 5 rfl (sl 6 rfl (sl 7 rfl (sl 8 rfl (sl 10 rfl (sl 11 rfl (sl 16 rfl (sl 17 rfl (sl 48 rfl sn)))))))))))) (el 10 rfl (el 111 rfl (el 9 rfl (el 113 rfl (el 512 rfl (el 922 rfl en)))))) ?_
        refine tri_if rfl (fun hf => ?_) (fun hf => ?_)
        · have hLj : (L.getD j (cL (cZ K)).dflt).length = j := hB.lL j (by omega)
          refine tri_reg mixed hcx ?_ _ _
          refine fa rfl fL 1 ?_
          refine ld rfl rfl tyZss rfl ?_
          refine mv rfl ?_
          refine ixo rfl rfl rfl slZss ⟨rfl, by omega⟩ ?_
          refine lo _ rfl rfl tyZs ⟨rfl, rfl, by omega⟩ ?_
          refine asg rfl ?_
          refine ⟨by kernel_rfl, ?_⟩
          refine nx (sl 0 rfl (sl 2 rfl (sl 4 rfl (sl 5 rfl (sl 6 rfl (sl 7 rfl (sl 8 rfl (sl 10 rfl (sl 11 rfl (sl 16 rfl (sl 17 rfl sn))))))))))) (el 10 rfl (el 111 rfl (el 9 rfl (el 113 rfl (el 512 rfl (el 922 rfl en)))))) ?_
          refine tri_seq ?_
          refine tri_reg mixed hcx ?_ _ _
          refine fa rfl fD 0 ?_
          refine ld rfl rfl tyZs rfl ?_
          refine mv rfl ?_
          refine ad (((q + 1 : Nat) : Int)) rfl rfl rfl (by omega) ?_
          refine ixo rfl rfl rfl slZs ⟨rfl, by omega⟩ ?_
          refine lo _ rfl rfl tyZ ⟨rfl, rfl, by omega⟩ ?_
          refine ld rfl rfl tyZ rfl ?_
          refine ca rfl (h := zi_Mul (by omega) (by omega)) (hn := ?_)
          refine mv rfl ?_
          refine mv rfl ?_
          refine ixo rfl rfl rfl slZs ⟨rfl, by omega⟩ ?_
          refine lo _ rfl rfl tyZ ⟨rfl, rfl, by omega⟩ ?_
          refine mv rfl ?_
          refine mv rfl ?_
          refine ix rfl rfl slZs ⟨rfl, by omega⟩ ?_
          refine lf rfl tyZ ?_
          refine ca rfl (h := zi_Mul (by omega) (by omega)) (hn := ?_)
          refine ca rfl (h := zi_Sub (by omega) (by omega)) (hn := ?_)
          refine st rfl rfl rfl tyZ rfl ?_
          refine ⟨by kernel_rfl, ?_⟩
          refine nx (sl 0 rfl (sl 2 rfl (sl 4 rfl (sl 5 rfl (sl 6 rfl (sl 7 rfl (sl 8 rfl (sl 10 rfl (sl 16 rfl (sl 17 rfl sn)))))))))) (el 10 rfl (el 111 rfl (el 9 rfl (el 113 rfl (el 512 rfl (el 922 rfl en)))))) ?_
          refine tri_reg mixed hcx ?_ _ _
          refine ld rfl rfl tyZ rfl ?_
          refine fa rfl fD 0 ?_
          refine ld rfl rfl tyZs rfl ?_
          refine mv rfl ?_
          refine ixo rfl rfl rfl slZs ⟨rfl, by omega⟩ ?_
          refine lo _ rfl rfl tyZ ⟨rfl, rfl, by omega⟩ ?_
          refine ca rfl (h := zi_Floor (by assumption) (by omega) (by omega)) (hn := ?_)
          refine mv rfl ?_
          refine ex rfl rfl ?_
          refine ex rfl rfl ?_
          refine ex rfl rfl ?_
          refine st rfl rfl rfl tyZ rfl ?_
          refine ⟨by kernel_rfl, ?_⟩
          refine pn_blk ?_
          refine nx (sl 0 rfl (sl 2 rfl (sl 4 rfl (sl 5 rfl (sl 6 rfl (sl 7 rfl (sl 8 rfl (sl 10 rfl (sl 16 rfl (sl 17 rfl sn)))))))))) (el 10 rfl (el 111 rfl (el 9 rfl (el 113 rfl (el 512 rfl (el 922 rfl en)))))) ?_
          refine tri_reg mixed hcx ?_ _ _
          refine mv rfl ?_
          refine ad (((q + 1 : Nat) : Int)) rfl rfl rfl (by omega) ?_
          refine asg rfl ?_
          refine ⟨by kernel_rfl, ?_⟩
          exact pn_back (q + 1) (by first | omega | (dsimp only; omega)) (by omega) (sl 0 rfl (sl 2 rfl (sl 4 rfl (sl 5 rfl (sl 6 rfl (sl 7 rfl (sl 8 rfl (sl 10 rfl (sl 16 rfl (sl 17 rfl sn)))))))))) (el 10 rfl (el 111 rfl (el 9 rfl (el 113 rfl (el 512 rfl (ew 922 rfl (box_pack1 (z_to (by show _ = stepU D (pickL L (rowU b D L i j) i j) (rowU b D L i j) q (redU D (pickL L (rowU b D L i j) i j) (rowU b D L i j) (dotU (b.getD i []) (b.getD j []) (b.getD i []).length) q); unfold stepU; rw [show pickL L (rowU b D L i j) i j = L.getD j [] from if_pos (show j < i by omega)]; rfl) (Nat.le_trans (red_bd (k := q + 1) hB hR (by omega) hzS (by omega)) (Nat.le_trans (bd_mono (by omega)) hK1)))) en))))))
        · refine tri_skip ?_
          refine nx (sl 0 rfl (sl 2 rfl (sl 4 rfl (sl 5 rfl (sl 6 rfl (sl 7 rfl (sl 8 rfl (sl 10 rfl (sl 11 rfl (sl 16 rfl (sl 17 rfl sn))))))))))) (el 10 rfl (el 111 rfl (el 9 rfl (el 113 rfl (el 512 rfl (el 922 rfl en)))))) ?_
          refine tri_seq ?_
          refine tri_reg mixed hcx ?_ _ _
          refine fa rfl fD 0 ?_
          refine ld rfl rfl tyZs rfl ?_
          refine mv rfl ?_
          refine ad (((q + 1 : Nat) : Int)) rfl rfl rfl (by omega) ?_
          refine ixo rfl rfl rfl slZs ⟨rfl, by omega⟩ ?_
          refine lo _ rfl rfl tyZ ⟨rfl, rfl, by omega⟩ ?_
          refine ld rfl rfl tyZ rfl ?_
          refine ca rfl (h := zi_Mul (by omega) (by omega)) (hn := ?_)
          refine mv rfl ?_
          refine mv rfl ?_
          refine ixo rfl rfl rfl slZs ⟨rfl, by omega⟩ ?_
          refine lo _ rfl rfl tyZ ⟨rfl, rfl, by omega⟩ ?_
          refine mv rfl ?_
          refine mv rfl ?_
          refine ixo rfl rfl rfl slZs ⟨rfl, by omega⟩ ?_
          refine lo _ rfl rfl tyZ ⟨rfl, rfl, by omega⟩ ?_
          refine ca rfl (h := zi_Mul (by omega) (by omega)) (hn := ?_)
          refine ca rfl (h := zi_Sub (by omega) (by omega)) (hn := ?_)
          refine st rfl rfl rfl tyZ rfl ?_
          refine ⟨by kernel_rfl, ?_⟩
          refine nx (sl 0 rfl (sl 2 rfl (sl 4 rfl (sl 5 rfl (sl 6 rfl (sl 7 rfl (sl 8 rfl (sl 10 rfl (sl 16 rfl (sl 17 rfl sn)))))))))) (el 10 rfl (el 111 rfl (el 9 rfl (el 113 rfl (el 512 rfl (el 922 rfl en)))))) ?_
          refine tri_reg mixed hcx ?_ _ _
          refine ld rfl rfl tyZ rfl ?_
          refine fa rfl fD 0 ?_
          refine ld rfl rfl tyZs rfl ?_
          refine mv rfl ?_
          refine ixo rfl rfl rfl slZs ⟨rfl, by omega⟩ ?_
          refine lo _ rfl rfl tyZ ⟨rfl, rfl, by omega⟩ ?_
          refine ca rfl (h := zi_Floor (by assumption) (by omega) (by omega)) (hn := ?_)
          refine mv rfl ?_
          refine ex rfl rfl ?_
          refine ex rfl rfl ?_
          refine ex rfl rfl ?_
          refine st rfl rfl rfl tyZ rfl ?_
          refine ⟨by kernel_rfl, ?_⟩
          refine pn_blk ?_
          refine nx (sl 0 rfl (sl 2 rfl (sl 4 rfl (sl 5 rfl (sl 6 rfl (sl 7 rfl (sl 8 rfl (sl 10 rfl (sl 16 rfl (sl 17 rfl sn)))))))))) (el 10 rfl (el 111 rfl (el 9 rfl (el 113 rfl (el 512 rfl (el 922 rfl en)))))) ?_
          refine tri_reg mixed hcx ?_ _ _
          refine mv rfl ?_
          refine ad (((q + 1 : Nat) : Int)) rfl rfl rfl (by omega) ?_
          refine asg rfl ?_
          refine ⟨by kernel_rfl, ?_⟩
          exact pn_back (q + 1) (by first | omega | (dsimp only; omega)) (by omega) (sl 0 rfl (sl 2 rfl (sl 4 rfl (sl 5 rfl (sl 6 rfl (sl 7 rfl (sl 8 rfl (sl 10 rfl (sl 16 rfl (sl 17 rfl sn)))))))))) (el 10 rfl (el 111 rfl (el 9 rfl (el 113 rfl (el 512 rfl (ew 922 rfl (box_pack1 (z_to (by show _ = stepU D (pickL L (rowU b D L i j) i j) (rowU b D L i j) q (redU D (pickL L (rowU b D L i j) i j) (rowU b D L i j) (dotU (b.getD i []) (b.getD j []) (b.getD i []).length) q); unfold stepU; rw [show pickL L (rowU b D L i j) i j = (rowU b D L i j) from if_neg (show ¬ j < i by omega)]; rfl) (Nat.le_trans (red_bd (k := q + 1) hB hR (by omega) hzS (by omega)) (Nat.le_trans (bd_mono (by omega)) hK1)))) en))))))
      · refine tri_exit ?_
        repeat (first | refine pn_then ?_ | refine pn_oth (by decide) ?_)
        refine pn_ex ?_
        have hqj : q = j := by omega
        refine nx (sl 0 rfl (sl 2 rfl (sl 4 rfl (sl 5 rfl (sl 6 rfl (sl 7 rfl (sl 8 rfl (sl 16 rfl (sl 17 rfl sn))))))))) (el 10 rfl (el 111 rfl (el 9 rfl (el 113 rfl (el 512 rfl (el 922 rfl en)))))) ?_
        refine tri_reg mixed hcx ?_ _ _
        refine mv rfl ?_
        refine ld rfl rfl tyZ rfl ?_
        refine bs (c := cZ K) (xs := [redU D (pickL L (rowU b D L i j) i j) (rowU b D L i j) (dotU (b.getD i []) (b.getD j []) (b.getD i []).length) j]) slZs rfl ⟨.of (by rw [hqj]; rfl), trivial⟩ ?_
        refine ap 1813 rfl rfl rfl slZs (by simp only [List.length_cons, List.length_nil]; omega) (by decide) ?_
        refine asg rfl ?_
        refine ⟨by kernel_rfl, ?_⟩
        refine pn_blk ?_
        refine nx (sl 0 rfl (sl 2 rfl (sl 4 rfl (sl 5 rfl (sl 6 rfl (sl 7 rfl (sl 16 rfl (sl 17 rfl sn)))))))) (el 10 rfl (el 111 rfl (el 9 rfl (el 113 rfl (el 922 rfl (el 1813 rfl en)))))) ?_
        refine tri_reg mixed hcx ?_ _ _
        refine mv rfl ?_
        refine ad (((j + 1 : Nat) : Int)) rfl rfl rfl (by omega) ?_
        refine asg rfl ?_
        refine ⟨by kernel_rfl, ?_⟩
        refine pn_sub (sl 0 rfl (sl 2 rfl (sl 4 rfl (sl 5 rfl (sl 6 rfl (sl 7 rfl (sl 16 rfl (sl 17 rfl sn)))))))) (el 10 rfl (el 111 rfl (el 9 rfl (el 113 rfl (el 922 rfl (el 1813 rfl en)))))) ?_
        refine pn_ren 6 512 1813 rfl rfl (by rw [hcx]; kernel_rfl) ?_
        exact pn_back (j + 1) (by first | omega | (dsimp only; omega)) ⟨by omega, hR.snoc (red_bd hB hR (by omega) hzS (Nat.le_refl _))⟩ (sl 0 rfl (sl 2 rfl (sl 4 rfl (sl 5 rfl (sl 6 rfl (sl 7 rfl (sl 16 rfl (sl 17 rfl sn)))))))) (el 10 rfl (el 111 rfl (el 9 rfl (el 113 rfl (el 512 rfl en)))))
    · refine tri_exit ?_
      repeat (first | refine pn_then ?_ | refine pn_oth (by decide) ?_)
      refine pn_ex ?_
      have hji : j = i + 1 := by omega
      subst hji
      have hRl := hR.len
      refine nx (sl 0 rfl (sl 2 rfl (sl 4 rfl (sl 5 rfl (sl 6 rfl (sl 16 rfl (sl 17 rfl sn))))))) (el 10 rfl (el 111 rfl (el 9 rfl (el 113 rfl (el 512 rfl en))))) ?_
      refine tri_seq ?_
      refine tri_seq ?_
      rcases Int.lt_or_le 0 ((rowU b D L i (i + 1)).getD i 0) with hpos | hpos
      · have hsp : sg ((rowU b D L i (i + 1)).getD i (cZ K).dflt) = 1 := sg_pos hpos
        have hnx : bld b (i + 1) = some (D ++ [(rowU b D L i (i + 1)).getD i 0], L ++ [(rowU b D L i (i + 1)).take i]) := by show (match bld b i with | none => none | some (D, L) => if (rowU b D L i (i + 1)).getD i 0 ≤ 0 then none else some (D ++ [(rowU b D L i (i + 1)).getD i 0], L ++ [(rowU b D L i (i + 1)).take i])) = _; rw [hb]; simp only; rw [if_neg (Int.not_le.2 hpos)]
        refine tri_reg mixed hcx ?_ _ _
        refine mv rfl ?_
        refine mv rfl ?_
        refine ixo rfl rfl rfl slZs ⟨rfl, by omega⟩ ?_
        refine lo _ rfl rfl tyZ ⟨rfl, rfl, by omega⟩ ?_
        refine ca rfl (h := zi_Sign (by omega)) (hn := ?_)
        refine cle rfl rfl (decide_eq_false (by omega)) ?_
        refine ⟨by kernel_rfl, ?_⟩
        refine nx (sl 0 rfl (sl 2 rfl (sl 4 rfl (sl 5 rfl (sl 6 rfl (sl 16 rfl (sl 17 rfl (sl 92 rfl sn)))))))) (el 10 rfl (el 111 rfl (el 9 rfl (el 113 rfl (el 512 rfl en))))) ?_
        refine tri_false rfl rfl ?_
        refine tri_skip ?_
        refine nx (sl 0 rfl (sl 2 rfl (sl 4 rfl (sl 5 rfl (sl 6 rfl (sl 16 rfl (sl 17 rfl sn))))))) (el 10 rfl (el 111 rfl (el 9 rfl (el 113 rfl (el 512 rfl en))))) ?_
        refine tri_seq ?_
        refine tri_fz 512 rfl ?_
        refine tri_rd 6 512 rfl rfl ?_
        refine tri_reg mixed hcx ?_ _ _
        refine fa rfl fD 0 ?_
        refine ld rfl rfl tyZs rfl ?_
        refine mv rfl ?_
        refine mv rfl ?_
        refine ix rfl rfl slZs ⟨rfl, by omega⟩ ?_
        refine lf rfl tyZ ?_
        refine bs (c := cZ K) (xs := [(rowU b D L i (i + 1)).getD i 0]) slZs rfl ⟨.refl _, trivial⟩ ?_
        refine ap 2117 rfl rfl rfl slZs (by simp only [List.length_cons, List.length_nil]; omega) (by decide) ?_
        refine fa rfl fD 0 ?_
        refine st rfl rfl rfl tyZs rfl ?_
        refine ⟨by kernel_rfl, ?_⟩
        refine nx (sl 0 rfl (sl 2 rfl (sl 4 rfl (sl 5 rfl (sl 6 rfl (sl 16 rfl (sl 17 rfl sn))))))) (el 10 rfl (el 9 rfl (el 113 rfl (el 2117 rfl en)))) ?_
        refine tri_reg mixed hcx ?_ _ _
        refine fa rfl fL 1 ?_
        refine ld rfl rfl tyZss rfl ?_
        refine mv rfl ?_
        refine mv rfl ?_
        refine mv rfl ?_
        refine sh3 rfl slZs rfl rfl ⟨rfl, rfl, by omega⟩ ?_
        refine bs (c := cL (cZ K)) (xs := [(rowU b D L i (i + 1)).take i]) slZss rfl ⟨.refl _, trivial⟩ ?_
        refine ap 2217 rfl rfl rfl slZss (by simp only [List.length_cons, List.length_nil]; omega) (by decide) ?_
        refine fa rfl fL 1 ?_
        refine st rfl rfl rfl tyZss rfl ?_
        refine ⟨by kernel_rfl, ?_⟩
        refine pn_blk ?_
        refine nx (sl 0 rfl (sl 2 rfl (sl 4 rfl (sl 16 rfl (sl 17 rfl sn))))) (el 10 rfl (el 113 rfl (el 2117 rfl (el 2217 rfl en)))) ?_
        refine tri_reg mixed hcx ?_ _ _
        refine ad _ rfl rfl rfl ⟨rfl, by omega, by omega⟩ ?_
        refine mv rfl ?_
        refine ⟨by kernel_rfl, ?_⟩
        refine pn_sub (sl 0 rfl (sl 2 rfl (sl 4 rfl (sl 16 rfl (sl 17 rfl sn))))) (el 10 rfl (el 113 rfl (el 2117 rfl (el 2217 rfl en)))) ?_
        refine pn_renb (bl := [T.o 2117, T.o 2217]) (bl' := [T.o 111, T.o 2217]) 113 111 2117 rfl rfl ⟨.inr ⟨rfl, rfl⟩, .inl ⟨rfl, by show 111 ∉ [2217]; decide⟩, trivial⟩ (by rw [hcx]; kernel_rfl) rfl ?_
        refine pn_renb (bl := [T.o 111, T.o 2217]) (bl' := [T.o 111, T.o 9]) 113 9 2217 rfl rfl ⟨.inl ⟨rfl, by show 9 ∉ [111]; decide⟩, .inr ⟨rfl, rfl⟩, trivial⟩ (by rw [hcx]; kernel_rfl) rfl ?_
        exact pn_back (i + 1, D ++ [(rowU b D L i (i + 1)).getD i 0], L ++ [(rowU b D L i (i + 1)).take i]) (by dsimp only; omega) ⟨by omega, hnx, hB.step hR hpos⟩ (sl 0 rfl (sl 2 rfl (sl 4 rfl (sl 16 rfl (sl 17 rfl sn))))) (el 10 rfl (el 111 rfl (el 9 rfl (el 113 rfl en))))
      · have hsp : sg ((rowU b D L i (i + 1)).getD i (cZ K).dflt) ≤ 0 := sg_le.2 hpos
        refine tri_reg mixed hcx ?_ _ _
        refine mv rfl ?_
        refine mv rfl ?_
        refine ixo rfl rfl rfl slZs ⟨rfl, by omega⟩ ?_
        refine lo _ rfl rfl tyZ ⟨rfl, rfl, by omega⟩ ?_
        refine ca rfl (h := zi_Sign (by omega)) (hn := ?_)
        refine cle rfl rfl (decide_eq_true (by omega)) ?_
        refine ⟨by kernel_rfl, ?_⟩
        refine nx (sl 0 rfl (sl 2 rfl (sl 4 rfl (sl 5 rfl (sl 6 rfl (sl 16 rfl (sl 17 rfl (sl 92 rfl sn)))))))) (el 10 rfl (el 111 rfl (el 9 rfl (el 113 rfl (el 512 rfl en))))) ?_
        refine tri_true rfl rfl ?_
        refine tri_seq ?_
        refine tri_reg mixed hcx ?_ _ _
        refine bu stG rfl ?_
        refine st rfl rfl rfl tyG rfl ?_
        refine asg rfl ?_
        refine ⟨by kernel_rfl, ?_⟩
        refine nx (sl 2 rfl (sl 3 rfl sn)) (el 10 rfl (el 111 rfl (el 9 rfl (el 113 rfl (el 512 rfl en))))) ?_
        refine tri_ret ?_
        repeat (first | refine pn_thenr ?_ | refine pn_blkr ?_)
        exact ret2 hcx rfl (rv_cell (c' := cx) (n := 0) rfl rfl tyG rfl) (rv_tmp rfl) (.refl _) en
  · refine tri_exit ?_
    repeat (first | refine pn_then ?_ | refine pn_oth (by decide) ?_)
    refine pn_ex ?_
    have hin : i = b.length := by omega
    rw [hin, h] at hb; cases hb

theorem g_of_err_t {b : List (List Int)} {k : Nat} {r : Int} (hk : k ≤ 1048576) (hrr : ∀ i, i < b.length → (b.getD i []).length ≤ 1048576) (hbl : b.length ≤ 1048576) (hR : ShR b true r) (hr : r ≠ 0) : Fn Try.prog 77 [T.l (cL (cZi k)) b, T.c (.bool true)] [] [] [] (T.tup [T.st [T.c (.slice none 0 0), T.c (.slice none 0 0)], T.c (.int .i64 r)]) := by
  refine fn_of Try.func77 rfl (by show 2 ≤ 25; decide) fun cx hcx => ?_
  refine tri_sub (sl 0 rfl (sl 1 rfl sn)) en ?_
  refine tri_seq ?_
  refine tri_reg mixed hcx ?_ _ _
  refine nw 10 zeG ?_
  refine asg rfl ?_
  refine ⟨by kernel_rfl, ?_⟩
  refine nx (sl 0 rfl (sl 1 rfl (sl 4 rfl sn))) (el 10 rfl en) ?_
  refine tri_seq ?_
  refine tri_seq ?_
  refine tri_reg mixed hcx ?_ _ _
  refine mv rfl ?_
  refine mv rfl ?_
  refine ca rfl (h := g_shaped_t hk hbl hrr hR) (hn := ?_)
  refine asg rfl ?_
  refine ⟨by kernel_rfl, ?_⟩
  refine nx (sl 0 rfl (sl 4 rfl (sl 6 rfl sn))) (el 10 rfl en) ?_
  refine tri_seq ?_
  refine tri_reg mixed hcx ?_ _ _
  refine mv rfl ?_
  refine cne rfl rfl (decide_eq_true hr) ?_
  refine ⟨by kernel_rfl, ?_⟩
  refine nx (sl 0 rfl (sl 4 rfl (sl 6 rfl (sl 13 rfl sn)))) (el 10 rfl en) ?_
  refine tri_true rfl rfl ?_
  refine tri_seq ?_
  refine tri_reg mixed hcx ?_ _ _
  refine bu stG rfl ?_
  refine mv rfl ?_
  refine st rfl rfl rfl tyG rfl ?_
  refine asg rfl ?_
  refine ⟨by kernel_rfl, ?_⟩
  refine nx (sl 4 rfl (sl 5 rfl sn)) (el 10 rfl en) ?_
  refine tri_ret ?_
  repeat (first | refine pn_thenr ?_ | refine pn_blkr ?_)
  exact ret2 hcx rfl (rv_cell (c' := cx) (n := 0) rfl rfl tyG rfl) (rv_tmp rfl) (.refl _) en

theorem g_of_no_t {b : List (List Int)} {k m S K : Nat} (h0 : 0 < b.length) (hb : b.length ≤ 12) (hm : ∀ i, i < b.length → (b.getD i []).length = m) (hk : k ≤ 1048576) (hm12 : m ≤ 12) (hR : ShR b true 0) (h : bld b b.length = none) (hS : ∀ i j, i < b.length → j ≤ i → zl (dotU (b.getD i []) (b.getD j []) (b.getD i []).length) ≤ S) (hK1 : bd S 12 ≤ K) (hK2 : K ≤ 137438953472) (hK3 : 2 ≤ K) : Fn Try.prog 77 [T.l (cL (cZi k)) b, T.c (.bool true)] [] [] [] (T.tup [T.st [T.c (.slice none 0 0), T.c (.slice none 0 0)], T.c (.int .i64 50)]) := by
  refine fn_of Try.func77 rfl (by show 2 ≤ 25; decide) fun cx hcx => ?_
  refine tri_sub (sl 0 rfl (sl 1 rfl sn)) en ?_
  have hrr : ∀ i, i < b.length → (b.getD i []).length ≤ 1048576 := fun i hi => by rw [hm i hi]; omega
  refine tri_seq ?_
  refine tri_reg mixed hcx ?_ _ _
  refine nw 10 zeG ?_
  refine asg rfl ?_
  refine ⟨by kernel_rfl, ?_⟩
  refine nx (sl 0 rfl (sl 1 rfl (sl 4 rfl sn))) (el 10 rfl en) ?_
  refine tri_seq ?_
  refine tri_seq ?_
  refine tri_reg mixed hcx ?_ _ _
  refine mv rfl ?_
  refine mv rfl ?_
  refine ca rfl (h := g_shaped_t hk (by omega) hrr hR) (hn := ?_)
  refine asg rfl ?_
  refine ⟨by kernel_rfl, ?_⟩
  refine nx (sl 0 rfl (sl 4 rfl (sl 6 rfl sn))) (el 10 rfl en) ?_
  refine tri_seq ?_
  refine tri_reg mixed hcx ?_ _ _
  refine mv rfl ?_
  refine cne rfl rfl (decide_eq_false (by omega)) ?_
  refine ⟨by kernel_rfl, ?_⟩
  refine nx (sl 0 rfl (sl 4 rfl (sl 6 rfl (sl 13 rfl sn)))) (el 10 rfl en) ?_
  refine tri_false rfl rfl ?_
  refine tri_skip ?_
  refine nx (sl 0 rfl (sl 4 rfl sn)) (el 10 rfl en) ?_
  refine tri_seq ?_
  refine tri_reg mixed hcx ?_ _ _
  refine mv rfl ?_
  refine ca rfl (h := g_built_no h hb hm (by omega) hk hS hK1 hK2 hK3) (hn := ?_)
  refine mv rfl ?_
  refine ex rfl rfl ?_
  refine ex rfl rfl ?_
  refine nw 415 zeG ?_
  refine st rfl rfl rfl tyG rfl ?_
  refine asg rfl ?_
  refine ⟨by kernel_rfl, ?_⟩
  refine nx (sl 4 rfl (sl 7 rfl (sl 8 rfl sn))) (el 10 rfl (el 415 rfl en)) ?_
  refine tri_seq ?_
  refine tri_seq ?_
  refine tri_reg mixed hcx ?_ _ _
  refine mv rfl ?_
  refine nt rfl _ rfl ?_
  refine ⟨by kernel_rfl, ?_⟩
  refine nx (sl 4 rfl (sl 7 rfl (sl 22 rfl sn))) (el 10 rfl (el 415 rfl en)) ?_
  refine tri_true rfl rfl ?_
  refine tri_seq ?_
  refine tri_reg mixed hcx ?_ _ _
  refine bu stG rfl ?_
  refine st rfl rfl rfl tyG rfl ?_
  refine asg rfl ?_
  refine ⟨by kernel_rfl, ?_⟩
  refine nx (sl 4 rfl (sl 5 rfl sn)) (el 10 rfl (el 415 rfl en)) ?_
  refine tri_ret ?_
  repeat (first | refine pn_thenr ?_ | refine pn_blkr ?_)
  exact ret2 hcx rfl (rv_cell (c' := cx) (n := 0) rfl rfl tyG rfl) (rv_tmp rfl) (.refl _) en

theorem g_of_ok_t {b : List (List Int)} {D0 : List Int} {L0 : List (List Int)} {k m S K : Nat} (h0 : 0 < b.length) (hb : b.length ≤ 12) (hm : ∀ i, i < b.length → (b.getD i []).length = m) (hk : k ≤ 1048576) (hm12 : m ≤ 12) (hR : ShR b true 0) (h : bld b b.length = some (D0, L0)) (hS : ∀ i j, i < b.length → j ≤ i → zl (dotU (b.getD i []) (b.getD j []) (b.getD i []).length) ≤ S) (hK1 : bd S 12 ≤ K) (hK2 : K ≤ 137438953472) (hK3 : 2 ≤ K) : Fn Try.prog 77 [T.l (cL (cZi k)) b, T.c (.bool true)] [] [] [] (T.tup [T.st [T.l (cZ K) D0, T.l (cL (cZ K)) L0], T.c (.int .i64 0)]) := by
  refine fn_of Try.func77 rfl (by show 2 ≤ 25; decide) fun cx hcx => ?_
  refine tri_sub (sl 0 rfl (sl 1 rfl sn)) en ?_
  have hrr : ∀ i, i < b.length → (b.getD i []).length ≤ 1048576 := fun i hi => by rw [hm i hi]; omega
  refine tri_seq ?_
  refine tri_reg mixed hcx ?_ _ _
  refine nw 10 zeG ?_
  refine asg rfl ?_
  refine ⟨by kernel_rfl, ?_⟩
  refine nx (sl 0 rfl (sl 1 rfl (sl 4 rfl sn))) (el 10 rfl en) ?_
  refine tri_seq ?_
  refine tri_seq ?_
  refine tri_reg mixed hcx ?_ _ _
  refine mv rfl ?_
  refine mv rfl ?_
  refine ca rfl (h := g_shaped_t hk (by omega) hrr hR) (hn := ?_)
  refine asg rfl ?_
  refine ⟨by kernel_rfl, ?_⟩
  refine nx (sl 0 rfl (sl 4 rfl (sl 6 rfl sn))) (el 10 rfl en) ?_
  refine tri_seq ?_
  refine tri_reg mixed hcx ?_ _ _
  refine mv rfl ?_
  refine cne rfl rfl (decide_eq_false (by omega)) ?_
  refine ⟨by kernel_rfl, ?_⟩
  refine nx (sl 0 rfl (sl 4 rfl (sl 6 rfl (sl 13 rfl sn)))) (el 10 rfl en) ?_
  refine tri_false rfl rfl ?_
  refine tri_skip ?_
  refine nx (sl 0 rfl (sl 4 rfl sn)) (el 10 rfl en) ?_
  refine tri_seq ?_
  refine tri_reg mixed hcx ?_ _ _
  refine mv rfl ?_
  refine ca rfl (h := g_built h hb hm (by omega) hk hS hK1 hK2 hK3) (hn := ?_)
  refine mv rfl ?_
  refine ex rfl rfl ?_
  refine ex rfl rfl ?_
  refine nw 415 zeG ?_
  refine st rfl rfl rfl tyG rfl ?_
  refine asg rfl ?_
  refine ⟨by kernel_rfl, ?_⟩
  refine nx (sl 4 rfl (sl 7 rfl (sl 8 rfl sn))) (el 10 rfl (el 415 rfl en)) ?_
  refine tri_seq ?_
  refine tri_seq ?_
  refine tri_reg mixed hcx ?_ _ _
  refine mv rfl ?_
  refine nt rfl _ rfl ?_
  refine ⟨by kernel_rfl, ?_⟩
  refine nx (sl 4 rfl (sl 7 rfl (sl 22 rfl sn))) (el 10 rfl (el 415 rfl en)) ?_
  refine tri_false rfl rfl ?_
  refine tri_skip ?_
  refine nx (sl 4 rfl (sl 7 rfl sn)) (el 10 rfl (el 415 rfl en)) ?_
  refine tri_seq ?_
  refine tri_reg mixed hcx ?_ _ _
  refine ld rfl rfl tyG rfl ?_
  refine st rfl rfl rfl tyG rfl ?_
  refine asg rfl ?_
  refine ⟨by kernel_rfl, ?_⟩
  refine nx (sl 4 rfl (sl 5 rfl sn)) (el 10 rfl (el 415 rfl en)) ?_
  refine tri_ret ?_
  repeat (first | refine pn_thenr ?_ | refine pn_blkr ?_)
  exact ret2 hcx rfl (rv_cell (c' := cx) (n := 0) rfl rfl tyG rfl) (rv_tmp rfl) (.refl _) en

theorem g_of_err_f {b : List (List Int)} {k : Nat} {r : Int} (hk : k ≤ 1048576) (hrr : ∀ i, i < b.length → (b.getD i []).length ≤ 1048576) (hbl : b.length ≤ 1048576) (hR : ShR b false r) (hr : r ≠ 0) : Fn Try.prog 77 [T.l (cL (cZi k)) b, T.c (.bool false)] [] [] [] (T.tup [T.st [T.c (.slice none 0 0), T.c (.slice none 0 0)], T.c (.int .i64 r)]) := by
  refine fn_of Try.func77 rfl (by show 2 ≤ 25; decide) fun cx hcx => ?_
  refine tri_sub (sl 0 rfl (sl 1 rfl sn)) en ?_
  refine tri_seq ?_
  refine tri_reg mixed hcx ?_ _ _
  refine nw 10 zeG ?_
  refine asg rfl ?_
  refine ⟨by kernel_rfl, ?_⟩
  refine nx (sl 0 rfl (sl 1 rfl (sl 4 rfl sn))) (el 10 rfl en) ?_
  refine tri_seq ?_
  refine tri_seq ?_
  refine tri_reg mixed hcx ?_ _ _
  refine mv rfl ?_
  refine mv rfl ?_
  refine ca rfl (h := g_shaped_f hk hbl hrr hR) (hn := ?_)
  refine asg rfl ?_
  refine ⟨by kernel_rfl, ?_⟩
  refine nx (sl 0 rfl (sl 4 rfl (sl 6 rfl sn))) (el 10 rfl en) ?_
  refine tri_seq ?_
  refine tri_reg mixed hcx ?_ _ _
  refine mv rfl ?_
  refine cne rfl rfl (decide_eq_true hr) ?_
  refine ⟨by kernel_rfl, ?_⟩
  refine nx (sl 0 rfl (sl 4 rfl (sl 6 rfl (sl 13 rfl sn)))) (el 10 rfl en) ?_
  refine tri_true rfl rfl ?_
  refine tri_seq ?_
  refine tri_reg mixed hcx ?_ _ _
  refine bu stG rfl ?_
  refine mv rfl ?_
  refine st rfl rfl rfl tyG rfl ?_
  refine asg rfl ?_
  refine ⟨by kernel_rfl, ?_⟩
  refine nx (sl 4 rfl (sl 5 rfl sn)) (el 10 rfl en) ?_
  refine tri_ret ?_
  repeat (first | refine pn_thenr ?_ | refine pn_blkr ?_)
  exact ret2 hcx rfl (rv_cell (c' := cx) (n := 0) rfl rfl tyG rfl) (rv_tmp rfl) (.refl _) en

theorem g_of_no_f {b : List (List Int)} {k m S K : Nat} (h0 : 0 < b.length) (hb : b.length ≤ 12) (hm : ∀ i, i < b.length → (b.getD i []).length = m) (hk : k ≤ 1048576) (hm12 : m ≤ 12) (hR : ShR b false 0) (h : bld b b.length = none) (hS : ∀ i j, i < b.length → j ≤ i → zl (dotU (b.getD i []) (b.getD j []) (b.getD i []).length) ≤ S) (hK1 : bd S 12 ≤ K) (hK2 : K ≤ 137438953472) (hK3 : 2 ≤ K) : Fn Try.prog 77 [T.l (cL (cZi k)) b, T.c (.bool false)] [] [] [] (T.tup [T.st [T.c (.slice none 0 0), T.c (.slice none 0 0)], T.c (.int .i64 50)]) := by
  refine fn_of Try.func77 rfl (by show 2 ≤ 25; decide) fun cx hcx => ?_
  refine tri_sub (sl 0 rfl (sl 1 rfl sn)) en ?_
  have hrr : ∀ i, i < b.length → (b.getD i []).length ≤ 1048576 := fun i hi => by rw [hm i hi]; omega
  refine tri_seq ?_
  refine tri_reg mixed hcx ?_ _ _
  refine nw 10 zeG ?_
  refine asg rfl ?_
  refine ⟨by kernel_rfl, ?_⟩
  refine nx (sl 0 rfl (sl 1 rfl (sl 4 rfl sn))) (el 10 rfl en) ?_
  refine tri_seq ?_
  refine tri_seq ?_
  refine tri_reg mixed hcx ?_ _ _
  refine mv rfl ?_
  refine mv rfl ?_
  refine ca rfl (h := g_shaped_f hk (by omega) hrr hR) (hn := ?_)
  refine asg rfl ?_
  refine ⟨by kernel_rfl, ?_⟩
  refine nx (sl 0 rfl (sl 4 rfl (sl 6 rfl sn))) (el 10 rfl en) ?_
  refine tri_seq ?_
  refine tri_reg mixed hcx ?_ _ _
  refine mv rfl ?_
  refine cne rfl rfl (decide_eq_false (by omega)) ?_
  refine ⟨by kernel_rfl, ?_⟩
  refine nx (sl 0 rfl (sl 4 rfl (sl 6 rfl (sl 13 rfl sn)))) (el 10 rfl en) ?_
  refine tri_false rfl rfl ?_
  refine tri_skip ?_
  refine nx (sl 0 rfl (sl 4 rfl sn)) (el 10 rfl en) ?_
  refine tri_seq ?_
  refine tri_reg mixed hcx ?_ _ _
  refine mv rfl ?_
  refine ca rfl (h := g_built_no h hb hm (by omega) hk hS hK1 hK2 hK3) (hn := ?_)
  refine mv rfl ?_
  refine ex rfl rfl ?_
  refine ex rfl rfl ?_
  refine nw 415 zeG ?_
  refine st rfl rfl rfl tyG rfl ?_
  refine asg rfl ?_
  refine ⟨by kernel_rfl, ?_⟩
  refine nx (sl 4 rfl (sl 7 rfl (sl 8 rfl sn))) (el 10 rfl (el 415 rfl en)) ?_
  refine tri_seq ?_
  refine tri_seq ?_
  refine tri_reg mixed hcx ?_ _ _
  refine mv rfl ?_
  refine nt rfl _ rfl ?_
  refine ⟨by kernel_rfl, ?_⟩
  refine nx (sl 4 rfl (sl 7 rfl (sl 22 rfl sn))) (el 10 rfl (el 415 rfl en)) ?_
  refine tri_true rfl rfl ?_
  refine tri_seq ?_
  refine tri_reg mixed hcx ?_ _ _
  refine bu stG rfl ?_
  refine st rfl rfl rfl tyG rfl ?_
  refine asg rfl ?_
  refine ⟨by kernel_rfl, ?_⟩
  refine nx (sl 4 rfl (sl 5 rfl sn)) (el 10 rfl (el 415 rfl en)) ?_
  refine tri_ret ?_
  repeat (first | refine pn_thenr ?_ | refine pn_blkr ?_)
  exact ret2 hcx rfl (rv_cell (c' := cx) (n := 0) rfl rfl tyG rfl) (rv_tmp rfl) (.refl _) en

theorem g_of_ok_f {b : List (List Int)} {D0 : List Int} {L0 : List (List Int)} {k m S K : Nat} (h0 : 0 < b.length) (hb : b.length ≤ 12) (hm : ∀ i, i < b.length → (b.getD i []).length = m) (hk : k ≤ 1048576) (hm12 : m ≤ 12) (hR : ShR b false 0) (h : bld b b.length = some (D0, L0)) (hS : ∀ i j, i < b.length → j ≤ i → zl (dotU (b.getD i []) (b.getD j []) (b.getD i []).length) ≤ S) (hK1 : bd S 12 ≤ K) (hK2 : K ≤ 137438953472) (hK3 : 2 ≤ K) : Fn Try.prog 77 [T.l (cL (cZi k)) b, T.c (.bool false)] [] [] [] (T.tup [T.st [T.l (cZ K) D0, T.l (cL (cZ K)) L0], T.c (.int .i64 0)]) := by
  refine fn_of Try.func77 rfl (by show 2 ≤ 25; decide) fun cx hcx => ?_
  refine tri_sub (sl 0 rfl (sl 1 rfl sn)) en ?_
  have hrr : ∀ i, i < b.length → (b.getD i []).length ≤ 1048576 := fun i hi => by rw [hm i hi]; omega
  refine tri_seq ?_
  refine tri_reg mixed hcx ?_ _ _
  refine nw 10 zeG ?_
  refine asg rfl ?_
  refine ⟨by kernel_rfl, ?_⟩
  refine nx (sl 0 rfl (sl 1 rfl (sl 4 rfl sn))) (el 10 rfl en) ?_
  refine tri_seq ?_
  refine tri_seq ?_
  refine tri_reg mixed hcx ?_ _ _
  refine mv rfl ?_
  refine mv rfl ?_
  refine ca rfl (h := g_shaped_f hk (by omega) hrr hR) (hn := ?_)
  refine asg rfl ?_
  refine ⟨by kernel_rfl, ?_⟩
  refine nx (sl 0 rfl (sl 4 rfl (sl 6 rfl sn))) (el 10 rfl en) ?_
  refine tri_seq ?_
  refine tri_reg mixed hcx ?_ _ _
  refine mv rfl ?_
  refine cne rfl rfl (decide_eq_false (by omega)) ?_
  refine ⟨by kernel_rfl, ?_⟩
  refine nx (sl 0 rfl (sl 4 rfl (sl 6 rfl (sl 13 rfl sn)))) (el 10 rfl en) ?_
  refine tri_false rfl rfl ?_
  refine tri_skip ?_
  refine nx (sl 0 rfl (sl 4 rfl sn)) (el 10 rfl en) ?_
  refine tri_seq ?_
  refine tri_reg mixed hcx ?_ _ _
  refine mv rfl ?_
  refine ca rfl (h := g_built h hb hm (by omega) hk hS hK1 hK2 hK3) (hn := ?_)
  refine mv rfl ?_
  refine ex rfl rfl ?_
  refine ex rfl rfl ?_
  refine nw 415 zeG ?_
  refine st rfl rfl rfl tyG rfl ?_
  refine asg rfl ?_
  refine ⟨by kernel_rfl, ?_⟩
  refine nx (sl 4 rfl (sl 7 rfl (sl 8 rfl sn))) (el 10 rfl (el 415 rfl en)) ?_
  refine tri_seq ?_
  refine tri_seq ?_
  refine tri_reg mixed hcx ?_ _ _
  refine mv rfl ?_
  refine nt rfl _ rfl ?_
  refine ⟨by kernel_rfl, ?_⟩
  refine nx (sl 4 rfl (sl 7 rfl (sl 22 rfl sn))) (el 10 rfl (el 415 rfl en)) ?_
  refine tri_false rfl rfl ?_
  refine tri_skip ?_
  refine nx (sl 4 rfl (sl 7 rfl sn)) (el 10 rfl (el 415 rfl en)) ?_
  refine tri_seq ?_
  refine tri_reg mixed hcx ?_ _ _
  refine ld rfl rfl tyG rfl ?_
  refine st rfl rfl rfl tyG rfl ?_
  refine asg rfl ?_
  refine ⟨by kernel_rfl, ?_⟩
  refine nx (sl 4 rfl (sl 5 rfl sn)) (el 10 rfl (el 415 rfl en)) ?_
  refine tri_ret ?_
  repeat (first | refine pn_thenr ?_ | refine pn_blkr ?_)
  exact ret2 hcx rfl (rv_cell (c' := cx) (n := 0) rfl rfl tyG rfl) (rv_tmp rfl) (.refl _) en
end Go.Proofs.Ytbihfnjmdpbkgaa.V
