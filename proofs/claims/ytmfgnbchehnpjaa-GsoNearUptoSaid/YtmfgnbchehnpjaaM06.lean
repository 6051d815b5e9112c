/- What is said of rows, but for dependence. -/
import Derived.Test.YtmfgnbchehnpjaaM05
set_option linter.unusedVariables false
set_option linter.unusedSimpArgs false
set_option maxRecDepth 100000
namespace Go.Proofs.Ytmfgnbchehnpjaa.V
open Go.RowKit Mt Nml
/-- A truth value, whichever. -/
def T.tb : T := T.ex 1 false (fun _ : Bool => True) (fun s => T.c (.bool s)) (fun _ => ⟨rfl, rfl, rfl⟩)
theorem tb_of (s : Bool) : (T.c (.bool s)).le T.tb := fun β u v h => ⟨s, trivial, h⟩
theorem iv_abs {s : Bool} {xs : List Int} {z : Int} (h : Lim xs) (hz : z = iv s (val xs)) : val xs = ((z.natAbs : Nat) : Int) := by
  have := val_nonneg h
  subst hz
  unfold iv
  split <;> omega
theorem zi_parts {z : Int} {k : Nat} : (T.Zi z k).le (T.st [T.tb, T.L z.natAbs k]) := fun β u v ⟨i, ⟨h1, h2, h3⟩, cs, e, hc⟩ => ⟨cs, e, cells_le (l := [T.c (.bool i.1), T.l cU i.2]) hc ⟨tb_of i.1, l_L h1 (iv_abs h1 h2) h3, trivial⟩ rfl⟩
instance (z : Int) (k : Nat) : Sp (T.Zi z k) [T.tb, T.L z.natAbs k] := ⟨zi_parts⟩
instance (z : Int) (k : Nat) : Sp ((cZi k).X z) [T.tb, T.L z.natAbs k] := ⟨zi_parts⟩
/-- Rows that are too large: q, are the bits asked? -/
def BigB (b : List (List Int)) (q : Bool) : Prop := 12 < b.length ∨ (q = true ∧ 256 < matB b b.length) ∨ ∃ i, i < b.length ∧ 12 < (b.getD i []).length
/-- Rows of unlike lengths. -/
def BadB (b : List (List Int)) : Prop := ∃ i, i < b.length ∧ (b.getD i []).length ≠ (b.getD 0 []).length
/-- What is said of rows, but for dependence. -/
structure ShR (b : List (List Int)) (q : Bool) (r : Int) : Prop where
  big : BigB b q → r = 40
  nil : ¬ BigB b q → b.length = 0 → r = 41
  bad : ¬ BigB b q → b.length ≠ 0 → BadB b → r = 8
  ok : ¬ BigB b q → b.length ≠ 0 → ¬ BadB b → r = 0
theorem ShR.ex (b : List (List Int)) (q : Bool) : ∃ r, ShR b q r := by
  by_cases h1 : BigB b q
  · exact ⟨40, fun _ => rfl, fun h => absurd h1 h, fun h => absurd h1 h, fun h => absurd h1 h⟩
  · by_cases h2 : b.length = 0
    · exact ⟨41, fun h => absurd h h1, fun _ _ => rfl, fun _ h => absurd h2 h, fun _ h => absurd h2 h⟩
    · by_cases h3 : BadB b
      · exact ⟨8, fun h => absurd h h1, fun _ h => absurd h h2, fun _ _ _ => rfl, fun _ _ h => absurd h3 h⟩
      · exact ⟨0, fun h => absurd h h1, fun _ h => absurd h h2, fun _ _ h => absurd h h3, fun _ _ _ => rfl⟩
theorem mxB_ge {l : List Int} {a : Nat} : ∀ {n : Nat}, a ≤ mxB l a n
  | 0 => Nat.le_refl _
  | n + 1 => Nat.le_trans mxB_ge (Nat.le_max_left _ _)
theorem mxB_at {l : List Int} {a : Nat} : ∀ {n k : Nat}, k < n → nbits (l.getD k 0).natAbs ≤ mxB l a n
  | n + 1, k, h => by
    rcases Nat.lt_or_eq_of_le (Nat.le_of_lt_succ h) with h1 | h1
    · exact Nat.le_trans (mxB_at h1) (Nat.le_max_left _ _)
    · subst h1; exact Nat.le_max_right _ _
theorem matB_at {b : List (List Int)} : ∀ {n i k : Nat}, i < n → k < (b.getD i []).length → nbits ((b.getD i []).getD k 0).natAbs ≤ matB b n
  | n + 1, i, k, hi, hk => by
    rcases Nat.lt_or_eq_of_le (Nat.le_of_lt_succ hi) with h1 | h1
    · exact Nat.le_trans (matB_at h1 hk) mxB_ge
    · subst h1; exact mxB_at hk
/-- Is it so far? -/
def BigU (b : List (List Int)) (q : Bool) (i : Nat) : Prop := 12 < b.length ∨ (q = true ∧ 256 < matB b b.length) ∨ ∃ j, j < i ∧ 12 < (b.getD j []).length
theorem bigU_zero {b : List (List Int)} {q p : Bool} (h : p = true ↔ (12 < b.length ∨ (q = true ∧ 256 < matB b b.length))) : p = true ↔ BigU b q 0 := by
  rw [h]
  refine ⟨fun h => ?_, fun h => ?_⟩
  · rcases h with h | h
    · exact .inl h
    · exact .inr (.inl h)
  · rcases h with h | h | ⟨j, hj, _⟩
    · exact .inl h
    · exact .inr h
    · omega
theorem bigU_t {b : List (List Int)} {q : Bool} {i : Nat} (h : BigU b q i) : (true = true) ↔ BigU b q (i + 1) := ⟨fun _ => by
  rcases h with h | h | ⟨j, hj, h⟩
  · exact .inl h
  · exact .inr (.inl h)
  · exact .inr (.inr ⟨j, by omega, h⟩), fun _ => rfl⟩
theorem bigU_n {b : List (List Int)} {q : Bool} {i : Nat} (h : 12 < (b.getD i []).length) : (true = true) ↔ BigU b q (i + 1) := ⟨fun _ => .inr (.inr ⟨i, by omega, h⟩), fun _ => rfl⟩
theorem bigU_f {b : List (List Int)} {q : Bool} {i : Nat} (h : ¬ BigU b q i) (h2 : ¬ 12 < (b.getD i []).length) : (false = true) ↔ BigU b q (i + 1) := ⟨fun h => (by cases h), fun k0 => absurd k0 (by
  rintro (k | k | ⟨j, hj, k⟩)
  · exact h (.inl k)
  · exact h (.inr (.inl k))
  · rcases Nat.lt_or_eq_of_le (Nat.le_of_lt_succ hj) with h1 | h1
    · exact h (.inr (.inr ⟨j, h1, k⟩))
    · rw [h1] at k; exact h2 k)⟩
theorem bad_of {b : List (List Int)} (h : BadB b) : ∃ i, i < b.length ∧ (b.getD i []).length ≠ (b.getD 0 []).length ∧ ∀ j, j < i → (b.getD j []).length = (b.getD 0 []).length := by
  obtain ⟨i, ⟨h1, h2⟩, h3⟩ := least (fun i => i < b.length ∧ (b.getD i []).length ≠ (b.getD 0 []).length) h
  refine ⟨i, h1, h2, fun j hj => ?_⟩
  by_cases e : (b.getD j []).length = (b.getD 0 []).length
  · exact e
  · have := h3 j ⟨by omega, e⟩; omega

theorem mat_Shape_bad {b : List (List Int)} {k : Nat} (h0 : 0 < b.length) (hb : b.length ≤ 12) (h : BadB b) (hr : ∀ i, i < b.length → (b.getD i []).length ≤ 12) : Fn Try.prog 166 [T.l (cL (cZi k)) b] [] [] [] (T.tup [T.c (.int .i64 0), T.c (.int .i64 0), T.c (.int .i64 8)]) := by
  refine fn_of Try.func166 rfl (by show 1 ≤ 30; decide) fun cx hcx => ?_
  refine tri_sub (sl 0 rfl sn) en ?_
  obtain ⟨w, hw1, hw2, hw3⟩ := bad_of h
  have hm0 : (b.getD 0 (cL (cZi k)).dflt).length ≤ 12 := hr 0 h0
  refine tri_seq ?_
  refine tri_reg mixed hcx ?_ _ _
  refine asg rfl ?_
  refine asg rfl ?_
  refine asg rfl ?_
  refine ⟨by kernel_rfl, ?_⟩
  refine nx (sl 0 rfl sn) en ?_
  refine tri_seq ?_
  refine tri_seq ?_
  refine tri_reg mixed hcx ?_ _ _
  refine mv rfl ?_
  refine ln slZss rfl ?_
  refine ceq rfl rfl (decide_eq_false (by omega)) ?_
  refine ⟨by kernel_rfl, ?_⟩
  refine nx (sl 0 rfl (sl 9 rfl sn)) en ?_
  refine tri_false rfl rfl ?_
  refine tri_skip ?_
  refine nx (sl 0 rfl sn) en ?_
  refine tri_seq ?_
  refine tri_seq ?_
  refine tri_reg mixed hcx ?_ _ _
  refine mv rfl ?_
  refine ln slZss rfl ?_
  refine mv rfl ?_
  refine ⟨by kernel_rfl, ?_⟩
  refine nx (sl 0 rfl (sl 10 rfl (sl 11 rfl (sl 12 rfl sn)))) en ?_
  refine tri_block ?_
  refine tri_loop (ι := Nat) (fun i => [(0, T.l (cL (cZi k)) b), (10, T.l (cL (cZi k)) b), (11, T.c (.int .i64 (b.length : Int))), (12, T.c (.int .i64 (i : Int)))]) (fun i => []) (fun i => b.length - i) (fun i => (i ≤ w)) 0 (Nat.zero_le _) (sl 0 rfl (sl 10 rfl (sl 11 rfl (sl 12 rfl sn)))) en ?_
  rintro i hi
  refine tri_sub (sl 0 rfl (sl 10 rfl (sl 11 rfl (sl 12 rfl sn)))) en ?_
  refine tri_seq ?_
  refine tri_reg mixed hcx ?_ _ _
  refine clt rfl rfl rfl ?_
  refine ⟨by kernel_rfl, ?_⟩
  refine nx (sl 0 rfl (sl 10 rfl (sl 11 rfl (sl 12 rfl (sl 13 rfl sn))))) en ?_
  refine tri_seq ?_
  refine tri_if rfl (fun hc => ?_) (fun hc => ?_)
  · have hmi : (b.getD i (cL (cZi k)).dflt).length ≤ 12 := hr i (by omega)
    refine tri_skip ?_
    refine nx (sl 0 rfl (sl 10 rfl (sl 11 rfl (sl 12 rfl sn)))) en ?_
    refine tri_seq ?_
    refine tri_block ?_
    refine tri_seq ?_
    refine tri_reg mixed hcx ?_ _ _
    refine ix rfl rfl slZss ⟨rfl, by omega⟩ ?_
    refine lf rfl tyZs ?_
    refine asg rfl ?_
    refine ⟨by kernel_rfl, ?_⟩
    refine nx (sl 0 rfl (sl 6 rfl (sl 10 rfl (sl 11 rfl (sl 12 rfl sn))))) en ?_
    refine tri_seq ?_
    rcases Nat.lt_or_eq_of_le hi with h9 | h9
    · have hme : (b.getD i (cL (cZi k)).dflt).length = (b.getD 0 (cL (cZi k)).dflt).length := hw3 i h9
      refine tri_reg mixed hcx ?_ _ _
      refine mv rfl ?_
      refine ln slZs rfl ?_
      refine mv rfl ?_
      refine ix rfl rfl slZss ⟨(rfl : _ = ((0 : Nat) : Int)), by omega⟩ ?_
      refine lf rfl tyZs ?_
      refine ln slZs rfl ?_
      refine cne rfl rfl (decide_eq_false (by omega)) ?_
      refine ⟨by kernel_rfl, ?_⟩
      refine nx (sl 0 rfl (sl 10 rfl (sl 11 rfl (sl 12 rfl (sl 22 rfl sn))))) en ?_
      refine tri_false rfl rfl ?_
      refine tri_skip ?_
      refine pn_blk ?_
      refine nx (sl 0 rfl (sl 10 rfl (sl 11 rfl (sl 12 rfl sn)))) en ?_
      refine tri_reg mixed hcx ?_ _ _
      refine ad (((i + 1 : Nat) : Int)) rfl rfl rfl (by omega) ?_
      refine mv rfl ?_
      refine ⟨by kernel_rfl, ?_⟩
      exact pn_back (i + 1) (by first | omega | (dsimp only; omega)) (by omega) (sl 0 rfl (sl 10 rfl (sl 11 rfl (sl 12 rfl sn)))) en
    · subst h9
      have hmn : (b.getD i (cL (cZi k)).dflt).length ≠ (b.getD 0 (cL (cZi k)).dflt).length := hw2
      refine tri_reg mixed hcx ?_ _ _
      refine mv rfl ?_
      refine ln slZs rfl ?_
      refine mv rfl ?_
      refine ix rfl rfl slZss ⟨(rfl : _ = ((0 : Nat) : Int)), by omega⟩ ?_
      refine lf rfl tyZs ?_
      refine ln slZs rfl ?_
      refine cne rfl rfl (decide_eq_true (by omega)) ?_
      refine ⟨by kernel_rfl, ?_⟩
      refine nx (sl 0 rfl (sl 10 rfl (sl 11 rfl (sl 12 rfl (sl 22 rfl sn))))) en ?_
      refine tri_true rfl rfl ?_
      refine tri_seq ?_
      refine tri_reg mixed hcx ?_ _ _
      refine asg rfl ?_
      refine asg rfl ?_
      refine asg rfl ?_
      refine ⟨by kernel_rfl, ?_⟩
      refine nx (sl 2 rfl (sl 3 rfl (sl 4 rfl sn))) en ?_
      refine tri_ret ?_
      repeat (first | refine pn_thenr ?_ | refine pn_blkr ?_)
      exact ret3 hcx rfl (rv_tmp rfl) (rv_tmp rfl) (rv_tmp rfl) (.refl _) en
  · refine tri_exit ?_
    repeat (first | refine pn_then ?_ | refine pn_oth (by decide) ?_)
    refine pn_ex ?_
    exfalso
    omega

theorem g_shaped_t {b : List (List Int)} {k : Nat} {r : Int} (hk : k ≤ 1048576) (hbl : b.length ≤ 1048576) (hrr : ∀ i, i < b.length → (b.getD i []).length ≤ 1048576) (hR : ShR b true r) : Fn Try.prog 131 [T.l (cL (cZi k)) b, T.c (.bool true)] [] [] [] (T.c (.int .i64 r)) := by
  refine fn_of Try.func131 rfl (by show 2 ≤ 46; decide) fun cx hcx => ?_
  refine tri_sub (sl 0 rfl (sl 1 rfl sn)) en ?_
  refine tri_seq ?_
  refine tri_reg mixed hcx ?_ _ _
  refine asg rfl ?_
  refine ⟨by kernel_rfl, ?_⟩
  refine nx (sl 0 rfl (sl 1 rfl sn)) en ?_
  refine tri_seq ?_
  rcases Nat.lt_or_ge 12 b.length with h1 | h1; rotate_left; rcases Nat.lt_or_ge 256 (matB b b.length) with h2 | h2; rotate_left; rotate_left
  · refine tri_reg mixed hcx ?_ _ _
    refine mv rfl ?_
    refine ln slZss rfl ?_
    refine cgt rfl rfl (decide_eq_true (by omega)) ?_
    refine mv rfl ?_
    refine j_off rfl rfl rfl rfl ?_
    refine j_off rfl rfl rfl rfl ?_
    refine j_ofu rfl rfl rfl ?_
    refine j_ofu rfl rfl rfl ?_
    refine j_ofu rfl rfl rfl ?_
    refine j_off rfl rfl rfl rfl ?_
    refine pk rfl rfl ?_
    refine asg rfl ?_
    refine ⟨by kernel_rfl, ?_⟩
    refine nx (sl 0 rfl (sl 5 rfl sn)) en ?_
    refine tri_seq ?_
    refine tri_seq ?_
    refine tri_reg mixed hcx ?_ _ _
    refine mv rfl ?_
    refine ln slZss rfl ?_
    refine mv rfl ?_
    refine ⟨by kernel_rfl, ?_⟩
    refine nx (sl 0 rfl (sl 5 rfl (sl 22 rfl (sl 23 rfl (sl 24 rfl sn))))) en ?_
    refine tri_block ?_
    refine tri_loop (ι := Nat × Bool) (fun (i, p) => [(0, T.l (cL (cZi k)) b), (5, T.c (.bool p)), (22, T.l (cL (cZi k)) b), (23, T.c (.int .i64 (b.length : Int))), (24, T.c (.int .i64 (i : Int)))]) (fun (i, p) => []) (fun (i, p) => b.length - i) (fun (i, p) => (i ≤ b.length) ∧ (p = true ↔ BigU b true i)) (0, true) ⟨Nat.zero_le _, bigU_zero ⟨fun _ => .inl h1, fun _ => rfl⟩⟩ (sl 0 rfl (sl 5 rfl (sl 22 rfl (sl 23 rfl (sl 24 rfl sn))))) en ?_
    rintro ⟨i, p⟩ ⟨hi, hp⟩
    refine tri_sub (sl 0 rfl (sl 5 rfl (sl 22 rfl (sl 23 rfl (sl 24 rfl sn))))) en ?_
    refine tri_seq ?_
    refine tri_reg mixed hcx ?_ _ _
    refine clt rfl rfl rfl ?_
    refine ⟨by kernel_rfl, ?_⟩
    refine nx (sl 0 rfl (sl 5 rfl (sl 22 rfl (sl 23 rfl (sl 24 rfl (sl 25 rfl sn)))))) en ?_
    refine tri_seq ?_
    refine tri_if rfl (fun hc => ?_) (fun hc => ?_)
    · have hmi : (b.getD i (cL (cZi k)).dflt).length ≤ 1048576 := hrr i (by omega)
      refine tri_skip ?_
      refine nx (sl 0 rfl (sl 5 rfl (sl 22 rfl (sl 23 rfl (sl 24 rfl sn))))) en ?_
      refine tri_seq ?_
      refine tri_block ?_
      refine tri_seq ?_
      refine tri_reg mixed hcx ?_ _ _
      refine ix rfl rfl slZss ⟨rfl, by omega⟩ ?_
      refine lf rfl tyZs ?_
      refine asg rfl ?_
      refine ⟨by kernel_rfl, ?_⟩
      refine nx (sl 0 rfl (sl 5 rfl (sl 7 rfl (sl 22 rfl (sl 23 rfl (sl 24 rfl sn)))))) en ?_
      rcases Bool.eq_false_or_eq_true p with h5 | h5; rotate_left; rcases Nat.lt_or_ge 12 (b.getD i (cL (cZi k)).dflt).length with h6 | h6; rotate_left; rotate_left
      · subst h5
        refine tri_reg mixed hcx ?_ _ _
        refine mv rfl ?_
        refine mv rfl ?_
        refine j_off rfl rfl rfl rfl ?_
        refine j_off rfl rfl rfl rfl ?_
        refine j_off rfl rfl rfl rfl ?_
        refine pk rfl rfl ?_
        refine asg rfl ?_
        refine ⟨by kernel_rfl, ?_⟩
        refine pn_blk ?_
        refine nx (sl 0 rfl (sl 5 rfl (sl 22 rfl (sl 23 rfl (sl 24 rfl sn))))) en ?_
        refine tri_reg mixed hcx ?_ _ _
        refine ad (((i + 1 : Nat) : Int)) rfl rfl rfl (by omega) ?_
        refine mv rfl ?_
        refine ⟨by kernel_rfl, ?_⟩
        exact pn_back (i + 1, true) (by dsimp only; omega) ⟨by omega, bigU_t (hp.1 rfl)⟩ (sl 0 rfl (sl 5 rfl (sl 22 rfl (sl 23 rfl (sl 24 rfl sn))))) en
      · subst h5
        refine tri_reg mixed hcx ?_ _ _
        refine mv rfl ?_
        refine mv rfl ?_
        refine mv rfl ?_ (hg := gd1)
        refine ln slZs rfl ?_ (hg := gd1)
        refine cgt rfl rfl (decide_eq_true (by omega)) ?_ (hg := gd1)
        refine pk rfl rfl ?_
        refine asg rfl ?_
        refine ⟨by kernel_rfl, ?_⟩
        refine pn_blk ?_
        refine nx (sl 0 rfl (sl 5 rfl (sl 22 rfl (sl 23 rfl (sl 24 rfl sn))))) en ?_
        refine tri_reg mixed hcx ?_ _ _
        refine ad (((i + 1 : Nat) : Int)) rfl rfl rfl (by omega) ?_
        refine mv rfl ?_
        refine ⟨by kernel_rfl, ?_⟩
        exact pn_back (i + 1, true) (by dsimp only; omega) ⟨by omega, bigU_n h6⟩ (sl 0 rfl (sl 5 rfl (sl 22 rfl (sl 23 rfl (sl 24 rfl sn))))) en
      · subst h5
        refine tri_reg mixed hcx ?_ _ _
        refine mv rfl ?_
        refine mv rfl ?_
        refine mv rfl ?_ (hg := gd1)
        refine ln slZs rfl ?_ (hg := gd1)
        refine cgt rfl rfl (decide_eq_false (by omega)) ?_ (hg := gd1)
        refine pk rfl rfl ?_
        refine asg rfl ?_
        refine ⟨by kernel_rfl, ?_⟩
        refine pn_blk ?_
        refine nx (sl 0 rfl (sl 5 rfl (sl 22 rfl (sl 23 rfl (sl 24 rfl sn))))) en ?_
        refine tri_reg mixed hcx ?_ _ _
        refine ad (((i + 1 : Nat) : Int)) rfl rfl rfl (by omega) ?_
        refine mv rfl ?_
        refine ⟨by kernel_rfl, ?_⟩
        exact pn_back (i + 1, false) (by dsimp only; omega) ⟨by omega, bigU_f (fun h => by have := hp.2 h; cases this) (Nat.not_lt.2 h6)⟩ (sl 0 rfl (sl 5 rfl (sl 22 rfl (sl 23 rfl (sl 24 rfl sn))))) en
    · refine tri_exit ?_
      repeat (first | refine pn_then ?_ | refine pn_oth (by decide) ?_)
      refine pn_ex ?_
      have hin : i = b.length := by omega
      rw [hin] at hp
      refine nx (sl 0 rfl (sl 5 rfl sn)) en ?_
      refine tri_seq ?_
      refine tri_seq ?_
      refine tri_reg mixed hcx ?_ _ _
      refine mv rfl ?_
      refine ⟨by kernel_rfl, ?_⟩
      refine nx (sl 0 rfl (sl 35 rfl sn)) en ?_
      refine tri_cond rfl (fun h7 => ?_) (fun h7 => ?_)
      · have h8 : BigB b true := hp.1 h7
        refine tri_seq ?_
        refine tri_reg mixed hcx ?_ _ _
        refine asg rfl ?_
        refine ⟨by kernel_rfl, ?_⟩
        refine nx (sl 4 rfl sn) en ?_
        refine tri_ret ?_
        repeat (first | refine pn_thenr ?_ | refine pn_blkr ?_)
        exact ret1 hcx rfl (rv_tmp rfl) (ci (hR.big h8).symm) en
      · have h8 : ¬ BigB b true := fun h => by have := hp.2 h; rw [h7] at this; cases this
        have hl12 : b.length ≤ 12 := Nat.not_lt.1 fun h => h8 (.inl h)
        have hr12 : ∀ i, i < b.length → (b.getD i []).length ≤ 12 := fun i hi => Nat.not_lt.1 fun h => h8 (.inr (.inr ⟨i, hi, h⟩))
        refine tri_skip ?_
        refine nx (sl 0 rfl sn) en ?_
        refine tri_seq ?_
        refine tri_seq ?_
        refine tri_reg mixed hcx ?_ _ _
        refine mv rfl ?_
        refine ln slZss rfl ?_
        refine ceq rfl rfl rfl ?_
        refine ⟨by kernel_rfl, ?_⟩
        refine nx (sl 0 rfl (sl 38 rfl sn)) en ?_
        refine tri_if rfl (fun h9 => ?_) (fun h9 => ?_)
        · refine tri_seq ?_
          refine tri_reg mixed hcx ?_ _ _
          refine asg rfl ?_
          refine ⟨by kernel_rfl, ?_⟩
          refine nx (sl 4 rfl sn) en ?_
          refine tri_ret ?_
          repeat (first | refine pn_thenr ?_ | refine pn_blkr ?_)
          exact ret1 hcx rfl (rv_tmp rfl) (ci (hR.nil h8 (by omega)).symm) en
        · have h0 : 0 < b.length := by omega
          refine tri_skip ?_
          refine nx (sl 0 rfl sn) en ?_
          refine tri_seq ?_
          by_cases h10 : BadB b
          · refine tri_reg mixed hcx ?_ _ _
            refine mv rfl ?_
            refine ca rfl (h := mat_Shape_bad h0 hl12 h10 hr12) (hn := ?_)
            refine mv rfl ?_
            refine ex rfl rfl ?_
            refine ex rfl rfl ?_
            refine ex rfl rfl ?_
            refine asg rfl ?_
            refine asg rfl ?_
            refine asg rfl ?_
            refine ⟨by kernel_rfl, ?_⟩
            refine nx (sl 10 rfl sn) en ?_
            refine tri_seq ?_
            refine tri_reg mixed hcx ?_ _ _
            refine mv rfl ?_
            refine asg rfl ?_
            refine ⟨by kernel_rfl, ?_⟩
            refine nx (sl 4 rfl sn) en ?_
            refine tri_ret ?_
            repeat (first | refine pn_thenr ?_ | refine pn_blkr ?_)
            exact ret1 hcx rfl (rv_tmp rfl) (ci (hR.bad h8 (by omega) h10).symm) en
          · have hm : ∀ i, i < b.length → (b.getD i []).length = (b.getD 0 []).length := fun i hi => Decidable.not_not.1 fun e => h10 ⟨i, hi, e⟩
            refine tri_reg mixed hcx ?_ _ _
            refine mv rfl ?_
            refine ca rfl (h := mat_Shape h0 hl12 hm) (hn := ?_)
            refine mv rfl ?_
            refine ex rfl rfl ?_
            refine ex rfl rfl ?_
            refine ex rfl rfl ?_
            refine asg rfl ?_
            refine asg rfl ?_
            refine asg rfl ?_
            refine ⟨by kernel_rfl, ?_⟩
            refine nx (sl 10 rfl sn) en ?_
            refine tri_seq ?_
            refine tri_reg mixed hcx ?_ _ _
            refine mv rfl ?_
            refine asg rfl ?_
            refine ⟨by kernel_rfl, ?_⟩
            refine nx (sl 4 rfl sn) en ?_
            refine tri_ret ?_
            repeat (first | refine pn_thenr ?_ | refine pn_blkr ?_)
            exact ret1 hcx rfl (rv_tmp rfl) (ci (hR.ok h8 (by omega) h10).symm) en
  · refine tri_reg mixed hcx ?_ _ _
    refine mv rfl ?_
    refine ln slZss rfl ?_
    refine cgt rfl rfl (decide_eq_false (by omega)) ?_
    refine mv rfl ?_
    refine mv rfl ?_ (hg := gd1)
    refine mv rfl ?_ (hg := gd1)
    refine mv rfl ?_ (hg := gd1)
    refine ca rfl (h := mat_Bits (by omega) (by omega) hrr) (hn := ?_) (hg := gd1)
    refine cgt rfl rfl (decide_eq_true (by omega)) ?_ (hg := gd1)
    refine pk rfl rfl ?_ (hg := gd1)
    refine pk rfl rfl ?_
    refine asg rfl ?_
    refine ⟨by kernel_rfl, ?_⟩
    refine nx (sl 0 rfl (sl 5 rfl sn)) en ?_
    refine tri_seq ?_
    refine tri_seq ?_
    refine tri_reg mixed hcx ?_ _ _
    refine mv rfl ?_
    refine ln slZss rfl ?_
    refine mv rfl ?_
    refine ⟨by kernel_rfl, ?_⟩
    refine nx (sl 0 rfl (sl 5 rfl (sl 22 rfl (sl 23 rfl (sl 24 rfl sn))))) en ?_
    refine tri_block ?_
    refine tri_loop (ι := Nat × Bool) (fun (i, p) => [(0, T.l (cL (cZi k)) b), (5, T.c (.bool p)), (22, T.l (cL (cZi k)) b), (23, T.c (.int .i64 (b.length : Int))), (24, T.c (.int .i64 (i : Int)))]) (fun (i, p) => []) (fun (i, p) => b.length - i) (fun (i, p) => (i ≤ b.length) ∧ (p = true ↔ BigU b true i)) (0, true) ⟨Nat.zero_le _, bigU_zero ⟨fun _ => .inr ⟨rfl, h2⟩, fun _ => rfl⟩⟩ (sl 0 rfl (sl 5 rfl (sl 22 rfl (sl 23 rfl (sl 24 rfl sn))))) en ?_
    rintro ⟨i, p⟩ ⟨hi, hp⟩
    refine tri_sub (sl 0 rfl (sl 5 rfl (sl 22 rfl (sl 23 rfl (sl 24 rfl sn))))) en ?_
    refine tri_seq ?_
    refine tri_reg mixed hcx ?_ _ _
    refine clt rfl rfl rfl ?_
    refine ⟨by kernel_rfl, ?_⟩
    refine nx (sl 0 rfl (sl 5 rfl (sl 22 rfl (sl 23 rfl (sl 24 rfl (sl 25 rfl sn)))))) en ?_
    refine tri_seq ?_
    refine tri_if rfl (fun hc => ?_) (fun hc => ?_)
    · have hmi : (b.getD i (cL (cZi k)).dflt).length ≤ 1048576 := hrr i (by omega)
      refine tri_skip ?_
      refine nx (sl 0 rfl (sl 5 rfl (sl 22 rfl (sl 23 rfl (sl 24 rfl sn))))) en ?_
      refine tri_seq ?_
      refine tri_block ?_
      refine tri_seq ?_
      refine tri_reg mixed hcx ?_ _ _
      refine ix rfl rfl slZss ⟨rfl, by omega⟩ ?_
      refine lf rfl tyZs ?_
      refine asg rfl ?_
      refine ⟨by kernel_rfl, ?_⟩
      refine nx (sl 0 rfl (sl 5 rfl (sl 7 rfl (sl 22 rfl (sl 23 rfl (sl 24 rfl sn)))))) en ?_
      rcases Bool.eq_false_or_eq_true p with h5 | h5; rotate_left; rcases Nat.lt_or_ge 12 (b.getD i (cL (cZi k)).dflt).length with h6 | h6; rotate_left; rotate_left
      · subst h5
        refine tri_reg mixed hcx ?_ _ _
        refine mv rfl ?_
        refine mv rfl ?_
        refine j_off rfl rfl rfl rfl ?_
        refine j_off rfl rfl rfl rfl ?_
        refine j_off rfl rfl rfl rfl ?_
        refine pk rfl rfl ?_
        refine asg rfl ?_
        refine ⟨by kernel_rfl, ?_⟩
        refine pn_blk ?_
        refine nx (sl 0 rfl (sl 5 rfl (sl 22 rfl (sl 23 rfl (sl 24 rfl sn))))) en ?_
        refine tri_reg mixed hcx ?_ _ _
        refine ad (((i + 1 : Nat) : Int)) rfl rfl rfl (by omega) ?_
        refine mv rfl ?_
        refine ⟨by kernel_rfl, ?_⟩
        exact pn_back (i + 1, true) (by dsimp only; omega) ⟨by omega, bigU_t (hp.1 rfl)⟩ (sl 0 rfl (sl 5 rfl (sl 22 rfl (sl 23 rfl (sl 24 rfl sn))))) en
      · subst h5
        refine tri_reg mixed hcx ?_ _ _
        refine mv rfl ?_
        refine mv rfl ?_
        refine mv rfl ?_ (hg := gd1)
        refine ln slZs rfl ?_ (hg := gd1)
        refine cgt rfl rfl (decide_eq_true (by omega)) ?_ (hg := gd1)
        refine pk rfl rfl ?_
        refine asg rfl ?_
        refine ⟨by kernel_rfl, ?_⟩
        refine pn_blk ?_
        refine nx (sl 0 rfl (sl 5 rfl (sl 22 rfl (sl 23 rfl (sl 24 rfl sn))))) en ?_
        refine tri_reg mixed hcx ?_ _ _
        refine ad (((i + 1 : Nat) : Int)) rfl rfl rfl (by omega) ?_
        refine mv rfl ?_
        refine ⟨by kernel_rfl, ?_⟩
        exact pn_back (i + 1, true) (by dsimp only; omega) ⟨by omega, bigU_n h6⟩ (sl 0 rfl (sl 5 rfl (sl 22 rfl (sl 23 rfl (sl 24 rfl sn))))) en
      · subst h5
        refine tri_reg mixed hcx ?_ _ _
        refine mv rfl ?_
        refine mv rfl ?_
        refine mv rfl ?_ (hg := gd1)
        refine ln slZs rfl ?_ (hg := gd1)
        refine cgt rfl rfl (decide_eq_false (by omega)) ?_ (hg := gd1)
        refine pk rfl rfl ?_
        refine asg rfl ?_
        refine ⟨by kernel_rfl, ?_⟩
        refine pn_blk ?_
        refine nx (sl 0 rfl (sl 5 rfl (sl 22 rfl (sl 23 rfl (sl 24 rfl sn))))) en ?_
        refine tri_reg mixed hcx ?_ _ _
        refine ad (((i + 1 : Nat) : Int)) rfl rfl rfl (by omega) ?_
        refine mv rfl ?_
        refine ⟨by kernel_rfl, ?_⟩
        exact pn_back (i + 1, false) (by dsimp only; omega) ⟨by omega, bigU_f (fun h => by have := hp.2 h; cases this) (Nat.not_lt.2 h6)⟩ (sl 0 rfl (sl 5 rfl (sl 22 rfl (sl 23 rfl (sl 24 rfl sn))))) en
    · refine tri_exit ?_
      repeat (first | refine pn_then ?_ | refine pn_oth (by decide) ?_)
      refine pn_ex ?_
      have hin : i = b.length := by omega
      rw [hin] at hp
      refine nx (sl 0 rfl (sl 5 rfl sn)) en ?_
      refine tri_seq ?_
      refine tri_seq ?_
      refine tri_reg mixed hcx ?_ _ _
      refine mv rfl ?_
      refine ⟨by kernel_rfl, ?_⟩
      refine nx (sl 0 rfl (sl 35 rfl sn)) en ?_
      refine tri_cond rfl (fun h7 => ?_) (fun h7 => ?_)
      · have h8 : BigB b true := hp.1 h7
        refine tri_seq ?_
        refine tri_reg mixed hcx ?_ _ _
        refine asg rfl ?_
        refine ⟨by kernel_rfl, ?_⟩
        refine nx (sl 4 rfl sn) en ?_
        refine tri_ret ?_
        repeat (first | refine pn_thenr ?_ | refine pn_blkr ?_)
        exact ret1 hcx rfl (rv_tmp rfl) (ci (hR.big h8).symm) en
      · have h8 : ¬ BigB b true := fun h => by have := hp.2 h; rw [h7] at this; cases this
        have hl12 : b.length ≤ 12 := Nat.not_lt.1 fun h => h8 (.inl h)
        have hr12 : ∀ i, i < b.length → (b.getD i []).length ≤ 12 := fun i hi => Nat.not_lt.1 fun h => h8 (.inr (.inr ⟨i, hi, h⟩))
        refine tri_skip ?_
        refine nx (sl 0 rfl sn) en ?_
        refine tri_seq ?_
        refine tri_seq ?_
        refine tri_reg mixed hcx ?_ _ _
        refine mv rfl ?_
        refine ln slZss rfl ?_
        refine ceq rfl rfl rfl ?_
        refine ⟨by kernel_rfl, ?_⟩
        refine nx (sl 0 rfl (sl 38 rfl sn)) en ?_
        refine tri_if rfl (fun h9 => ?_) (fun h9 => ?_)
        · refine tri_seq ?_
          refine tri_reg mixed hcx ?_ _ _
          refine asg rfl ?_
          refine ⟨by kernel_rfl, ?_⟩
          refine nx (sl 4 rfl sn) en ?_
          refine tri_ret ?_
          repeat (first | refine pn_thenr ?_ | refine pn_blkr ?_)
          exact ret1 hcx rfl (rv_tmp rfl) (ci (hR.nil h8 (by omega)).symm) en
        · have h0 : 0 < b.length := by omega
          refine tri_skip ?_
          refine nx (sl 0 rfl sn) en ?_
          refine tri_seq ?_
          by_cases h10 : BadB b
          · refine tri_reg mixed hcx ?_ _ _
            refine mv rfl ?_
            refine ca rfl (h := mat_Shape_bad h0 hl12 h10 hr12) (hn := ?_)
            refine mv rfl ?_
            refine ex rfl rfl ?_
            refine ex rfl rfl ?_
            refine ex rfl rfl ?_
            refine asg rfl ?_
            refine asg rfl ?_
            refine asg rfl ?_
            refine ⟨by kernel_rfl, ?_⟩
            refine nx (sl 10 rfl sn) en ?_
            refine tri_seq ?_
            refine tri_reg mixed hcx ?_ _ _
            refine mv rfl ?_
            refine asg rfl ?_
            refine ⟨by kernel_rfl, ?_⟩
            refine nx (sl 4 rfl sn) en ?_
            refine tri_ret ?_
            repeat (first | refine pn_thenr ?_ | refine pn_blkr ?_)
            exact ret1 hcx rfl (rv_tmp rfl) (ci (hR.bad h8 (by omega) h10).symm) en
          · have hm : ∀ i, i < b.length → (b.getD i []).length = (b.getD 0 []).length := fun i hi => Decidable.not_not.1 fun e => h10 ⟨i, hi, e⟩
            refine tri_reg mixed hcx ?_ _ _
            refine mv rfl ?_
            refine ca rfl (h := mat_Shape h0 hl12 hm) (hn := ?_)
            refine mv rfl ?_
            refine ex rfl rfl ?_
            refine ex rfl rfl ?_
            refine ex rfl rfl ?_
            refine asg rfl ?_
            refine asg rfl ?_
            refine asg rfl ?_
            refine ⟨by kernel_rfl, ?_⟩
            refine nx (sl 10 rfl sn) en ?_
            refine tri_seq ?_
            refine tri_reg mixed hcx ?_ _ _
            refine mv rfl ?_
            refine asg rfl ?_
            refine ⟨by kernel_rfl, ?_⟩
            refine nx (sl 4 rfl sn) en ?_
            refine tri_ret ?_
            repeat (first | refine pn_thenr ?_ | refine pn_blkr ?_)
            exact ret1 hcx rfl (rv_tmp rfl) (ci (hR.ok h8 (by omega) h10).symm) en
  · refine tri_reg mixed hcx ?_ _ _
    refine mv rfl ?_
    refine ln slZss rfl ?_
    refine cgt rfl rfl (decide_eq_false (by omega)) ?_
    refine mv rfl ?_
    refine mv rfl ?_ (hg := gd1)
    refine mv rfl ?_ (hg := gd1)
    refine mv rfl ?_ (hg := gd1)
    refine ca rfl (h := mat_Bits (by omega) (by omega) hrr) (hn := ?_) (hg := gd1)
    refine cgt rfl rfl (decide_eq_false (by omega)) ?_ (hg := gd1)
    refine pk rfl rfl ?_ (hg := gd1)
    refine pk rfl rfl ?_
    refine asg rfl ?_
    refine ⟨by kernel_rfl, ?_⟩
    refine nx (sl 0 rfl (sl 5 rfl sn)) en ?_
    refine tri_seq ?_
    refine tri_seq ?_
    refine tri_reg mixed hcx ?_ _ _
    refine mv rfl ?_
    refine ln slZss rfl ?_
    refine mv rfl ?_
    refine ⟨by kernel_rfl, ?_⟩
    refine nx (sl 0 rfl (sl 5 rfl (sl 22 rfl (sl 23 rfl (sl 24 rfl sn))))) en ?_
    refine tri_block ?_
    refine tri_loop (ι := Nat × Bool) (fun (i, p) => [(0, T.l (cL (cZi k)) b), (5, T.c (.bool p)), (22, T.l (cL (cZi k)) b), (23, T.c (.int .i64 (b.length : Int))), (24, T.c (.int .i64 (i : Int)))]) (fun (i, p) => []) (fun (i, p) => b.length - i) (fun (i, p) => (i ≤ b.length) ∧ (p = true ↔ BigU b true i)) (0, false) ⟨Nat.zero_le _, bigU_zero ⟨fun h => (by cases h), fun h => by rcases h with h | h <;> omega⟩⟩ (sl 0 rfl (sl 5 rfl (sl 22 rfl (sl 23 rfl (sl 24 rfl sn))))) en ?_
    rintro ⟨i, p⟩ ⟨hi, hp⟩
    refine tri_sub (sl 0 rfl (sl 5 rfl (sl 22 rfl (sl 23 rfl (sl 24 rfl sn))))) en ?_
    refine tri_seq ?_
    refine tri_reg mixed hcx ?_ _ _
    refine clt rfl rfl rfl ?_
    refine ⟨by kernel_rfl, ?_⟩
    refine nx (sl 0 rfl (sl 5 rfl (sl 22 rfl (sl 23 rfl (sl 24 rfl (sl 25 rfl sn)))))) en ?_
    refine tri_seq ?_
    refine tri_if rfl (fun hc => ?_) (fun hc => ?_)
    · have hmi : (b.getD i (cL (cZi k)).dflt).length ≤ 1048576 := hrr i (by omega)
      refine tri_skip ?_
      refine nx (sl 0 rfl (sl 5 rfl (sl 22 rfl (sl 23 rfl (sl 24 rfl sn))))) en ?_
      refine tri_seq ?_
      refine tri_block ?_
      refine tri_seq ?_
      refine tri_reg mixed hcx ?_ _ _
      refine ix rfl rfl slZss ⟨rfl, by omega⟩ ?_
      refine lf rfl tyZs ?_
      refine asg rfl ?_
      refine ⟨by kernel_rfl, ?_⟩
      refine nx (sl 0 rfl (sl 5 rfl (sl 7 rfl (sl 22 rfl (sl 23 rfl (sl 24 rfl sn)))))) en ?_
      rcases Bool.eq_false_or_eq_true p with h5 | h5; rotate_left; rcases Nat.lt_or_ge 12 (b.getD i (cL (cZi k)).dflt).length with h6 | h6; rotate_left; rotate_left
      · subst h5
        refine tri_reg mixed hcx ?_ _ _
        refine mv rfl ?_
        refine mv rfl ?_
        refine j_off rfl rfl rfl rfl ?_
        refine j_off rfl rfl rfl rfl ?_
        refine j_off rfl rfl rfl rfl ?_
        refine pk rfl rfl ?_
        refine asg rfl ?_
        refine ⟨by kernel_rfl, ?_⟩
        refine pn_blk ?_
        refine nx (sl 0 rfl (sl 5 rfl (sl 22 rfl (sl 23 rfl (sl 24 rfl sn))))) en ?_
        refine tri_reg mixed hcx ?_ _ _
        refine ad (((i + 1 : Nat) : Int)) rfl rfl rfl (by omega) ?_
        refine mv rfl ?_
        refine ⟨by kernel_rfl, ?_⟩
        exact pn_back (i + 1, true) (by dsimp only; omega) ⟨by omega, bigU_t (hp.1 rfl)⟩ (sl 0 rfl (sl 5 rfl (sl 22 rfl (sl 23 rfl (sl 24 rfl sn))))) en
      · subst h5
        refine tri_reg mixed hcx ?_ _ _
        refine mv rfl ?_
        refine mv rfl ?_
        refine mv rfl ?_ (hg := gd1)
        refine ln slZs rfl ?_ (hg := gd1)
        refine cgt rfl rfl (decide_eq_true (by omega)) ?_ (hg := gd1)
        refine pk rfl rfl ?_
        refine asg rfl ?_
        refine ⟨by kernel_rfl, ?_⟩
        refine pn_blk ?_
        refine nx (sl 0 rfl (sl 5 rfl (sl 22 rfl (sl 23 rfl (sl 24 rfl sn))))) en ?_
        refine tri_reg mixed hcx ?_ _ _
        refine ad (((i + 1 : Nat) : Int)) rfl rfl rfl (by omega) ?_
        refine mv rfl ?_
        refine ⟨by kernel_rfl, ?_⟩
        exact pn_back (i + 1, true) (by dsimp only; omega) ⟨by omega, bigU_n h6⟩ (sl 0 rfl (sl 5 rfl (sl 22 rfl (sl 23 rfl (sl 24 rfl sn))))) en
      · subst h5
        refine tri_reg mixed hcx ?_ _ _
        refine mv rfl ?_
        refine mv rfl ?_
        refine mv rfl ?_ (hg := gd1)
        refine ln slZs rfl ?_ (hg := gd1)
        refine cgt rfl rfl (decide_eq_false (by omega)) ?_ (hg := gd1)
        refine pk rfl rfl ?_
        refine asg rfl ?_
        refine ⟨by kernel_rfl, ?_⟩
        refine pn_blk ?_
        refine nx (sl 0 rfl (sl 5 rfl (sl 22 rfl (sl 23 rfl (sl 24 rfl sn))))) en ?_
        refine tri_reg mixed hcx ?_ _ _
        refine ad (((i + 1 : Nat) : Int)) rfl rfl rfl (by omega) ?_
        refine mv rfl ?_
        refine ⟨by kernel_rfl, ?_⟩
        exact pn_back (i + 1, false) (by dsimp only; omega) ⟨by omega, bigU_f (fun h => by have := hp.2 h; cases this) (Nat.not_lt.2 h6)⟩ (sl 0 rfl (sl 5 rfl (sl 22 rfl (sl 23 rfl (sl 24 rfl sn))))) en
    · refine tri_exit ?_
      repeat (first | refine pn_then ?_ | refine pn_oth (by decide) ?_)
      refine pn_ex ?_
      have hin : i = b.length := by omega
      rw [hin] at hp
      refine nx (sl 0 rfl (sl 5 rfl sn)) en ?_
      refine tri_seq ?_
      refine tri_seq ?_
      refine tri_reg mixed hcx ?_ _ _
      refine mv rfl ?_
      refine ⟨by kernel_rfl, ?_⟩
      refine nx (sl 0 rfl (sl 35 rfl sn)) en ?_
      refine tri_cond rfl (fun h7 => ?_) (fun h7 => ?_)
      · have h8 : BigB b true := hp.1 h7
        refine tri_seq ?_
        refine tri_reg mixed hcx ?_ _ _
        refine asg rfl ?_
        refine ⟨by kernel_rfl, ?_⟩
        refine nx (sl 4 rfl sn) en ?_
        refine tri_ret ?_
        repeat (first | refine pn_thenr ?_ | refine pn_blkr ?_)
        exact ret1 hcx rfl (rv_tmp rfl) (ci (hR.big h8).symm) en
      · have h8 : ¬ BigB b true := fun h => by have := hp.2 h; rw [h7] at this; cases this
        have hl12 : b.length ≤ 12 := Nat.not_lt.1 fun h => h8 (.inl h)
        have hr12 : ∀ i, i < b.length → (b.getD i []).length ≤ 12 := fun i hi => Nat.not_lt.1 fun h => h8 (.inr (.inr ⟨i, hi, h⟩))
        refine tri_skip ?_
        refine nx (sl 0 rfl sn) en ?_
        refine tri_seq ?_
        refine tri_seq ?_
        refine tri_reg mixed hcx ?_ _ _
        refine mv rfl ?_
        refine ln slZss rfl ?_
        refine ceq rfl rfl rfl ?_
        refine ⟨by kernel_rfl, ?_⟩
        refine nx (sl 0 rfl (sl 38 rfl sn)) en ?_
        refine tri_if rfl (fun h9 => ?_) (fun h9 => ?_)
        · refine tri_seq ?_
          refine tri_reg mixed hcx ?_ _ _
          refine asg rfl ?_
          refine ⟨by kernel_rfl, ?_⟩
          refine nx (sl 4 rfl sn) en ?_
          refine tri_ret ?_
          repeat (first | refine pn_thenr ?_ | refine pn_blkr ?_)
          exact ret1 hcx rfl (rv_tmp rfl) (ci (hR.nil h8 (by omega)).symm) en
        · have h0 : 0 < b.length := by omega
          refine tri_skip ?_
          refine nx (sl 0 rfl sn) en ?_
          refine tri_seq ?_
          by_cases h10 : BadB b
          · refine tri_reg mixed hcx ?_ _ _
            refine mv rfl ?_
            refine ca rfl (h := mat_Shape_bad h0 hl12 h10 hr12) (hn := ?_)
            refine mv rfl ?_
            refine ex rfl rfl ?_
            refine ex rfl rfl ?_
            refine ex rfl rfl ?_
            refine asg rfl ?_
            refine asg rfl ?_
            refine asg rfl ?_
            refine ⟨by kernel_rfl, ?_⟩
            refine nx (sl 10 rfl sn) en ?_
            refine tri_seq ?_
            refine tri_reg mixed hcx ?_ _ _
            refine mv rfl ?_
            refine asg rfl ?_
            refine ⟨by kernel_rfl, ?_⟩
            refine nx (sl 4 rfl sn) en ?_
            refine tri_ret ?_
            repeat (first | refine pn_thenr ?_ | refine pn_blkr ?_)
            exact ret1 hcx rfl (rv_tmp rfl) (ci (hR.bad h8 (by omega) h10).symm) en
          · have hm : ∀ i, i < b.length → (b.getD i []).length = (b.getD 0 []).length := fun i hi => Decidable.not_not.1 fun e => h10 ⟨i, hi, e⟩
            refine tri_reg mixed hcx ?_ _ _
            refine mv rfl ?_
            refine ca rfl (h := mat_Shape h0 hl12 hm) (hn := ?_)
            refine mv rfl ?_
            refine ex rfl rfl ?_
            refine ex rfl rfl ?_
            refine ex rfl rfl ?_
            refine asg rfl ?_
            refine asg rfl ?_
            refine asg rfl ?_
            refine ⟨by kernel_rfl, ?_⟩
            refine nx (sl 10 rfl sn) en ?_
            refine tri_seq ?_
            refine tri_reg mixed hcx ?_ _ _
            refine mv rfl ?_
            refine asg rfl ?_
            refine ⟨by kernel_rfl, ?_⟩
            refine nx (sl 4 rfl sn) en ?_
            refine tri_ret ?_
            repeat (first | refine pn_thenr ?_ | refine pn_blkr ?_)
            exact ret1 hcx rfl (rv_tmp rfl) (ci (hR.ok h8 (by omega) h10).symm) en

theorem g_shaped_f {b : List (List Int)} {k : Nat} {r : Int} (hk : k ≤ 1048576) (hbl : b.length ≤ 1048576) (hrr : ∀ i, i < b.length → (b.getD i []).length ≤ 1048576) (hR : ShR b false r) : Fn Try.prog 131 [T.l (cL (cZi k)) b, T.c (.bool false)] [] [] [] (T.c (.int .i64 r)) := by
  refine fn_of Try.func131 rfl (by show 2 ≤ 46; decide) fun cx hcx => ?_
  refine tri_sub (sl 0 rfl (sl 1 rfl sn)) en ?_
  refine tri_seq ?_
  refine tri_reg mixed hcx ?_ _ _
  refine asg rfl ?_
  refine ⟨by kernel_rfl, ?_⟩
  refine nx (sl 0 rfl (sl 1 rfl sn)) en ?_
  refine tri_seq ?_
  rcases Nat.lt_or_ge 12 b.length with h1 | h1
  · refine tri_reg mixed hcx ?_ _ _
    refine mv rfl ?_
    refine ln slZss rfl ?_
    refine cgt rfl rfl (decide_eq_true (by omega)) ?_
    refine mv rfl ?_
    refine j_off rfl rfl rfl rfl ?_
    refine j_off rfl rfl rfl rfl ?_
    refine j_ofu rfl rfl rfl ?_
    refine j_ofu rfl rfl rfl ?_
    refine j_ofu rfl rfl rfl ?_
    refine j_off rfl rfl rfl rfl ?_
    refine pk rfl rfl ?_
    refine asg rfl ?_
    refine ⟨by kernel_rfl, ?_⟩
    refine nx (sl 0 rfl (sl 5 rfl sn)) en ?_
    refine tri_seq ?_
    refine tri_seq ?_
    refine tri_reg mixed hcx ?_ _ _
    refine mv rfl ?_
    refine ln slZss rfl ?_
    refine mv rfl ?_
    refine ⟨by kernel_rfl, ?_⟩
    refine nx (sl 0 rfl (sl 5 rfl (sl 22 rfl (sl 23 rfl (sl 24 rfl sn))))) en ?_
    refine tri_block ?_
    refine tri_loop (ι := Nat × Bool) (fun (i, p) => [(0, T.l (cL (cZi k)) b), (5, T.c (.bool p)), (22, T.l (cL (cZi k)) b), (23, T.c (.int .i64 (b.length : Int))), (24, T.c (.int .i64 (i : Int)))]) (fun (i, p) => []) (fun (i, p) => b.length - i) (fun (i, p) => (i ≤ b.length) ∧ (p = true ↔ BigU b false i)) (0, true) ⟨Nat.zero_le _, bigU_zero ⟨fun _ => .inl h1, fun _ => rfl⟩⟩ (sl 0 rfl (sl 5 rfl (sl 22 rfl (sl 23 rfl (sl 24 rfl sn))))) en ?_
    rintro ⟨i, p⟩ ⟨hi, hp⟩
    refine tri_sub (sl 0 rfl (sl 5 rfl (sl 22 rfl (sl 23 rfl (sl 24 rfl sn))))) en ?_
    refine tri_seq ?_
    refine tri_reg mixed hcx ?_ _ _
    refine clt rfl rfl rfl ?_
    refine ⟨by kernel_rfl, ?_⟩
    refine nx (sl 0 rfl (sl 5 rfl (sl 22 rfl (sl 23 rfl (sl 24 rfl (sl 25 rfl sn)))))) en ?_
    refine tri_seq ?_
    refine tri_if rfl (fun hc => ?_) (fun hc => ?_)
    · have hmi : (b.getD i (cL (cZi k)).dflt).length ≤ 1048576 := hrr i (by omega)
      refine tri_skip ?_
      refine nx (sl 0 rfl (sl 5 rfl (sl 22 rfl (sl 23 rfl (sl 24 rfl sn))))) en ?_
      refine tri_seq ?_
      refine tri_block ?_
      refine tri_seq ?_
      refine tri_reg mixed hcx ?_ _ _
      refine ix rfl rfl slZss ⟨rfl, by omega⟩ ?_
      refine lf rfl tyZs ?_
      refine asg rfl ?_
      refine ⟨by kernel_rfl, ?_⟩
      refine nx (sl 0 rfl (sl 5 rfl (sl 7 rfl (sl 22 rfl (sl 23 rfl (sl 24 rfl sn)))))) en ?_
      rcases Bool.eq_false_or_eq_true p with h5 | h5; rotate_left; rcases Nat.lt_or_ge 12 (b.getD i (cL (cZi k)).dflt).length with h6 | h6; rotate_left; rotate_left
      · subst h5
        refine tri_reg mixed hcx ?_ _ _
        refine mv rfl ?_
        refine mv rfl ?_
        refine j_off rfl rfl rfl rfl ?_
        refine j_off rfl rfl rfl rfl ?_
        refine j_off rfl rfl rfl rfl ?_
        refine pk rfl rfl ?_
        refine asg rfl ?_
        refine ⟨by kernel_rfl, ?_⟩
        refine pn_blk ?_
        refine nx (sl 0 rfl (sl 5 rfl (sl 22 rfl (sl 23 rfl (sl 24 rfl sn))))) en ?_
        refine tri_reg mixed hcx ?_ _ _
        refine ad (((i + 1 : Nat) : Int)) rfl rfl rfl (by omega) ?_
        refine mv rfl ?_
        refine ⟨by kernel_rfl, ?_⟩
        exact pn_back (i + 1, true) (by dsimp only; omega) ⟨by omega, bigU_t (hp.1 rfl)⟩ (sl 0 rfl (sl 5 rfl (sl 22 rfl (sl 23 rfl (sl 24 rfl sn))))) en
      · subst h5
        refine tri_reg mixed hcx ?_ _ _
        refine mv rfl ?_
        refine mv rfl ?_
        refine mv rfl ?_ (hg := gd1)
        refine ln slZs rfl ?_ (hg := gd1)
        refine cgt rfl rfl (decide_eq_true (by omega)) ?_ (hg := gd1)
        refine pk rfl rfl ?_
        refine asg rfl ?_
        refine ⟨by kernel_rfl, ?_⟩
        refine pn_blk ?_
        refine nx (sl 0 rfl (sl 5 rfl (sl 22 rfl (sl 23 rfl (sl 24 rfl sn))))) en ?_
        refine tri_reg mixed hcx ?_ _ _
        refine ad (((i + 1 : Nat) : Int)) rfl rfl rfl (by omega) ?_
        refine mv rfl ?_
        refine ⟨by kernel_rfl, ?_⟩
        exact pn_back (i + 1, true) (by dsimp only; omega) ⟨by omega, bigU_n h6⟩ (sl 0 rfl (sl 5 rfl (sl 22 rfl (sl 23 rfl (sl 24 rfl sn))))) en
      · subst h5
        refine tri_reg mixed hcx ?_ _ _
        refine mv rfl ?_
        refine mv rfl ?_
        refine mv rfl ?_ (hg := gd1)
        refine ln slZs rfl ?_ (hg := gd1)
        refine cgt rfl rfl (decide_eq_false (by omega)) ?_ (hg := gd1)
        refine pk rfl rfl ?_
        refine asg rfl ?_
        refine ⟨by kernel_rfl, ?_⟩
        refine pn_blk ?_
        refine nx (sl 0 rfl (sl 5 rfl (sl 22 rfl (sl 23 rfl (sl 24 rfl sn))))) en ?_
        refine tri_reg mixed hcx ?_ _ _
        refine ad (((i + 1 : Nat) : Int)) rfl rfl rfl (by omega) ?_
        refine mv rfl ?_
        refine ⟨by kernel_rfl, ?_⟩
        exact pn_back (i + 1, false) (by dsimp only; omega) ⟨by omega, bigU_f (fun h => by have := hp.2 h; cases this) (Nat.not_lt.2 h6)⟩ (sl 0 rfl (sl 5 rfl (sl 22 rfl (sl 23 rfl (sl 24 rfl sn))))) en
    · refine tri_exit ?_
      repeat (first | refine pn_then ?_ | refine pn_oth (by decide) ?_)
      refine pn_ex ?_
      have hin : i = b.length := by omega
      rw [hin] at hp
      refine nx (sl 0 rfl (sl 5 rfl sn)) en ?_
      refine tri_seq ?_
      refine tri_seq ?_
      refine tri_reg mixed hcx ?_ _ _
      refine mv rfl ?_
      refine ⟨by kernel_rfl, ?_⟩
      refine nx (sl 0 rfl (sl 35 rfl sn)) en ?_
      refine tri_cond rfl (fun h7 => ?_) (fun h7 => ?_)
      · have h8 : BigB b false := hp.1 h7
        refine tri_seq ?_
        refine tri_reg mixed hcx ?_ _ _
        refine asg rfl ?_
        refine ⟨by kernel_rfl, ?_⟩
        refine nx (sl 4 rfl sn) en ?_
        refine tri_ret ?_
        repeat (first | refine pn_thenr ?_ | refine pn_blkr ?_)
        exact ret1 hcx rfl (rv_tmp rfl) (ci (hR.big h8).symm) en
      · have h8 : ¬ BigB b false := fun h => by have := hp.2 h; rw [h7] at this; cases this
        have hl12 : b.length ≤ 12 := Nat.not_lt.1 fun h => h8 (.inl h)
        have hr12 : ∀ i, i < b.length → (b.getD i []).length ≤ 12 := fun i hi => Nat.not_lt.1 fun h => h8 (.inr (.inr ⟨i, hi, h⟩))
        refine tri_skip ?_
        refine nx (sl 0 rfl sn) en ?_
        refine tri_seq ?_
        refine tri_seq ?_
        refine tri_reg mixed hcx ?_ _ _
        refine mv rfl ?_
        refine ln slZss rfl ?_
        refine ceq rfl rfl rfl ?_
        refine ⟨by kernel_rfl, ?_⟩
        refine nx (sl 0 rfl (sl 38 rfl sn)) en ?_
        refine tri_if rfl (fun h9 => ?_) (fun h9 => ?_)
        · refine tri_seq ?_
          refine tri_reg mixed hcx ?_ _ _
          refine asg rfl ?_
          refine ⟨by kernel_rfl, ?_⟩
          refine nx (sl 4 rfl sn) en ?_
          refine tri_ret ?_
          repeat (first | refine pn_thenr ?_ | refine pn_blkr ?_)
          exact ret1 hcx rfl (rv_tmp rfl) (ci (hR.nil h8 (by omega)).symm) en
        · have h0 : 0 < b.length := by omega
          refine tri_skip ?_
          refine nx (sl 0 rfl sn) en ?_
          refine tri_seq ?_
          by_cases h10 : BadB b
          · refine tri_reg mixed hcx ?_ _ _
            refine mv rfl ?_
            refine ca rfl (h := mat_Shape_bad h0 hl12 h10 hr12) (hn := ?_)
            refine mv rfl ?_
            refine ex rfl rfl ?_
            refine ex rfl rfl ?_
            refine ex rfl rfl ?_
            refine asg rfl ?_
            refine asg rfl ?_
            refine asg rfl ?_
            refine ⟨by kernel_rfl, ?_⟩
            refine nx (sl 10 rfl sn) en ?_
            refine tri_seq ?_
            refine tri_reg mixed hcx ?_ _ _
            refine mv rfl ?_
            refine asg rfl ?_
            refine ⟨by kernel_rfl, ?_⟩
            refine nx (sl 4 rfl sn) en ?_
            refine tri_ret ?_
            repeat (first | refine pn_thenr ?_ | refine pn_blkr ?_)
            exact ret1 hcx rfl (rv_tmp rfl) (ci (hR.bad h8 (by omega) h10).symm) en
          · have hm : ∀ i, i < b.length → (b.getD i []).length = (b.getD 0 []).length := fun i hi => Decidable.not_not.1 fun e => h10 ⟨i, hi, e⟩
            refine tri_reg mixed hcx ?_ _ _
            refine mv rfl ?_
            refine ca rfl (h := mat_Shape h0 hl12 hm) (hn := ?_)
            refine mv rfl ?_
            refine ex rfl rfl ?_
            refine ex rfl rfl ?_
            refine ex rfl rfl ?_
            refine asg rfl ?_
            refine asg rfl ?_
            refine asg rfl ?_
            refine ⟨by kernel_rfl, ?_⟩
            refine nx (sl 10 rfl sn) en ?_
            refine tri_seq ?_
            refine tri_reg mixed hcx ?_ _ _
            refine mv rfl ?_
            refine asg rfl ?_
            refine ⟨by kernel_rfl, ?_⟩
            refine nx (sl 4 rfl sn) en ?_
            refine tri_ret ?_
            repeat (first | refine pn_thenr ?_ | refine pn_blkr ?_)
            exact ret1 hcx rfl (rv_tmp rfl) (ci (hR.ok h8 (by omega) h10).symm) en
  · refine tri_reg mixed hcx ?_ _ _
    refine mv rfl ?_
    refine ln slZss rfl ?_
    refine cgt rfl rfl (decide_eq_false (by omega)) ?_
    refine mv rfl ?_
    refine mv rfl ?_ (hg := gd1)
    refine mv rfl ?_ (hg := gd1)
    refine j_off rfl rfl rfl rfl ?_
    refine j_off rfl rfl rfl rfl ?_
    refine j_off rfl rfl rfl rfl ?_
    refine pk rfl rfl ?_ (hg := gd1)
    refine pk rfl rfl ?_
    refine asg rfl ?_
    refine ⟨by kernel_rfl, ?_⟩
    refine nx (sl 0 rfl (sl 5 rfl sn)) en ?_
    refine tri_seq ?_
    refine tri_seq ?_
    refine tri_reg mixed hcx ?_ _ _
    refine mv rfl ?_
    refine ln slZss rfl ?_
    refine mv rfl ?_
    refine ⟨by kernel_rfl, ?_⟩
    refine nx (sl 0 rfl (sl 5 rfl (sl 22 rfl (sl 23 rfl (sl 24 rfl sn))))) en ?_
    refine tri_block ?_
    refine tri_loop (ι := Nat × Bool) (fun (i, p) => [(0, T.l (cL (cZi k)) b), (5, T.c (.bool p)), (22, T.l (cL (cZi k)) b), (23, T.c (.int .i64 (b.length : Int))), (24, T.c (.int .i64 (i : Int)))]) (fun (i, p) => []) (fun (i, p) => b.length - i) (fun (i, p) => (i ≤ b.length) ∧ (p = true ↔ BigU b false i)) (0, false) ⟨Nat.zero_le _, bigU_zero ⟨fun h => (by cases h), fun h => by rcases h with h | h; omega; cases h.1⟩⟩ (sl 0 rfl (sl 5 rfl (sl 22 rfl (sl 23 rfl (sl 24 rfl sn))))) en ?_
    rintro ⟨i, p⟩ ⟨hi, hp⟩
    refine tri_sub (sl 0 rfl (sl 5 rfl (sl 22 rfl (sl 23 rfl (sl 24 rfl sn))))) en ?_
    refine tri_seq ?_
    refine tri_reg mixed hcx ?_ _ _
    refine clt rfl rfl rfl ?_
    refine ⟨by kernel_rfl, ?_⟩
    refine nx (sl 0 rfl (sl 5 rfl (sl 22 rfl (sl 23 rfl (sl 24 rfl (sl 25 rfl sn)))))) en ?_
    refine tri_seq ?_
    refine tri_if rfl (fun hc => ?_) (fun hc => ?_)
    · have hmi : (b.getD i (cL (cZi k)).dflt).length ≤ 1048576 := hrr i (by omega)
      refine tri_skip ?_
      refine nx (sl 0 rfl (sl 5 rfl (sl 22 rfl (sl 23 rfl (sl 24 rfl sn))))) en ?_
      refine tri_seq ?_
      refine tri_block ?_
      refine tri_seq ?_
      refine tri_reg mixed hcx ?_ _ _
      refine ix rfl rfl slZss ⟨rfl, by omega⟩ ?_
      refine lf rfl tyZs ?_
      refine asg rfl ?_
      refine ⟨by kernel_rfl, ?_⟩
      refine nx (sl 0 rfl (sl 5 rfl (sl 7 rfl (sl 22 rfl (sl 23 rfl (sl 24 rfl sn)))))) en ?_
      rcases Bool.eq_false_or_eq_true p with h5 | h5; rotate_left; rcases Nat.lt_or_ge 12 (b.getD i (cL (cZi k)).dflt).length with h6 | h6; rotate_left; rotate_left
      · subst h5
        refine tri_reg mixed hcx ?_ _ _
        refine mv rfl ?_
        refine mv rfl ?_
        refine j_off rfl rfl rfl rfl ?_
        refine j_off rfl rfl rfl rfl ?_
        refine j_off rfl rfl rfl rfl ?_
        refine pk rfl rfl ?_
        refine asg rfl ?_
        refine ⟨by kernel_rfl, ?_⟩
        refine pn_blk ?_
        refine nx (sl 0 rfl (sl 5 rfl (sl 22 rfl (sl 23 rfl (sl 24 rfl sn))))) en ?_
        refine tri_reg mixed hcx ?_ _ _
        refine ad (((i + 1 : Nat) : Int)) rfl rfl rfl (by omega) ?_
        refine mv rfl ?_
        refine ⟨by kernel_rfl, ?_⟩
        exact pn_back (i + 1, true) (by dsimp only; omega) ⟨by omega, bigU_t (hp.1 rfl)⟩ (sl 0 rfl (sl 5 rfl (sl 22 rfl (sl 23 rfl (sl 24 rfl sn))))) en
      · subst h5
        refine tri_reg mixed hcx ?_ _ _
        refine mv rfl ?_
        refine mv rfl ?_
        refine mv rfl ?_ (hg := gd1)
        refine ln slZs rfl ?_ (hg := gd1)
        refine cgt rfl rfl (decide_eq_true (by omega)) ?_ (hg := gd1)
        refine pk rfl rfl ?_
        refine asg rfl ?_
        refine ⟨by kernel_rfl, ?_⟩
        refine pn_blk ?_
        refine nx (sl 0 rfl (sl 5 rfl (sl 22 rfl (sl 23 rfl (sl 24 rfl sn))))) en ?_
        refine tri_reg mixed hcx ?_ _ _
        refine ad (((i + 1 : Nat) : Int)) rfl rfl rfl (by omega) ?_
        refine mv rfl ?_
        refine ⟨by kernel_rfl, ?_⟩
        exact pn_back (i + 1, true) (by dsimp only; omega) ⟨by omega, bigU_n h6⟩ (sl 0 rfl (sl 5 rfl (sl 22 rfl (sl 23 rfl (sl 24 rfl sn))))) en
      · subst h5
        refine tri_reg mixed hcx ?_ _ _
        refine mv rfl ?_
        refine mv rfl ?_
        refine mv rfl ?_ (hg := gd1)
        refine ln slZs rfl ?_ (hg := gd1)
        refine cgt rfl rfl (decide_eq_false (by omega)) ?_ (hg := gd1)
        refine pk rfl rfl ?_
        refine asg rfl ?_
        refine ⟨by kernel_rfl, ?_⟩
        refine pn_blk ?_
        refine nx (sl 0 rfl (sl 5 rfl (sl 22 rfl (sl 23 rfl (sl 24 rfl sn))))) en ?_
        refine tri_reg mixed hcx ?_ _ _
        refine ad (((i + 1 : Nat) : Int)) rfl rfl rfl (by omega) ?_
        refine mv rfl ?_
        refine ⟨by kernel_rfl, ?_⟩
        exact pn_back (i + 1, false) (by dsimp only; omega) ⟨by omega, bigU_f (fun h => by have := hp.2 h; cases this) (Nat.not_lt.2 h6)⟩ (sl 0 rfl (sl 5 rfl (sl 22 rfl (sl 23 rfl (sl 24 rfl sn))))) en
    · refine tri_exit ?_
      repeat (first | refine pn_then ?_ | refine pn_oth (by decide) ?_)
      refine pn_ex ?_
      have hin : i = b.length := by omega
      rw [hin] at hp
      refine nx (sl 0 rfl (sl 5 rfl sn)) en ?_
      refine tri_seq ?_
      refine tri_seq ?_
      refine tri_reg mixed hcx ?_ _ _
      refine mv rfl ?_
      refine ⟨by kernel_rfl, ?_⟩
      refine nx (sl 0 rfl (sl 35 rfl sn)) en ?_
      refine tri_cond rfl (fun h7 => ?_) (fun h7 => ?_)
      · have h8 : BigB b false := hp.1 h7
        refine tri_seq ?_
        refine tri_reg mixed hcx ?_ _ _
        refine asg rfl ?_
        refine ⟨by kernel_rfl, ?_⟩
        refine nx (sl 4 rfl sn) en ?_
        refine tri_ret ?_
        repeat (first | refine pn_thenr ?_ | refine pn_blkr ?_)
        exact ret1 hcx rfl (rv_tmp rfl) (ci (hR.big h8).symm) en
      · have h8 : ¬ BigB b false := fun h => by have := hp.2 h; rw [h7] at this; cases this
        have hl12 : b.length ≤ 12 := Nat.not_lt.1 fun h => h8 (.inl h)
        have hr12 : ∀ i, i < b.length → (b.getD i []).length ≤ 12 := fun i hi => Nat.not_lt.1 fun h => h8 (.inr (.inr ⟨i, hi, h⟩))
        refine tri_skip ?_
        refine nx (sl 0 rfl sn) en ?_
        refine tri_seq ?_
        refine tri_seq ?_
        refine tri_reg mixed hcx ?_ _ _
        refine mv rfl ?_
        refine ln slZss rfl ?_
        refine ceq rfl rfl rfl ?_
        refine ⟨by kernel_rfl, ?_⟩
        refine nx (sl 0 rfl (sl 38 rfl sn)) en ?_
        refine tri_if rfl (fun h9 => ?_) (fun h9 => ?_)
        · refine tri_seq ?_
          refine tri_reg mixed hcx ?_ _ _
          refine asg rfl ?_
          refine ⟨by kernel_rfl, ?_⟩
          refine nx (sl 4 rfl sn) en ?_
          refine tri_ret ?_
          repeat (first | refine pn_thenr ?_ | refine pn_blkr ?_)
          exact ret1 hcx rfl (rv_tmp rfl) (ci (hR.nil h8 (by omega)).symm) en
        · have h0 : 0 < b.length := by omega
          refine tri_skip ?_
          refine nx (sl 0 rfl sn) en ?_
          refine tri_seq ?_
          by_cases h10 : BadB b
          · refine tri_reg mixed hcx ?_ _ _
            refine mv rfl ?_
            refine ca rfl (h := mat_Shape_bad h0 hl12 h10 hr12) (hn := ?_)
            refine mv rfl ?_
            refine ex rfl rfl ?_
            refine ex rfl rfl ?_
            refine ex rfl rfl ?_
            refine asg rfl ?_
            refine asg rfl ?_
            refine asg rfl ?_
            refine ⟨by kernel_rfl, ?_⟩
            refine nx (sl 10 rfl sn) en ?_
            refine tri_seq ?_
            refine tri_reg mixed hcx ?_ _ _
            refine mv rfl ?_
            refine asg rfl ?_
            refine ⟨by kernel_rfl, ?_⟩
            refine nx (sl 4 rfl sn) en ?_
            refine tri_ret ?_
            repeat (first | refine pn_thenr ?_ | refine pn_blkr ?_)
            exact ret1 hcx rfl (rv_tmp rfl) (ci (hR.bad h8 (by omega) h10).symm) en
          · have hm : ∀ i, i < b.length → (b.getD i []).length = (b.getD 0 []).length := fun i hi => Decidable.not_not.1 fun e => h10 ⟨i, hi, e⟩
            refine tri_reg mixed hcx ?_ _ _
            refine mv rfl ?_
            refine ca rfl (h := mat_Shape h0 hl12 hm) (hn := ?_)
            refine mv rfl ?_
            refine ex rfl rfl ?_
            refine ex rfl rfl ?_
            refine ex rfl rfl ?_
            refine asg rfl ?_
            refine asg rfl ?_
            refine asg rfl ?_
            refine ⟨by kernel_rfl, ?_⟩
            refine nx (sl 10 rfl sn) en ?_
            refine tri_seq ?_
            refine tri_reg mixed hcx ?_ _ _
            refine mv rfl ?_
            refine asg rfl ?_
            refine ⟨by kernel_rfl, ?_⟩
            refine nx (sl 4 rfl sn) en ?_
            refine tri_ret ?_
            repeat (first | refine pn_thenr ?_ | refine pn_blkr ?_)
            exact ret1 hcx rfl (rv_tmp rfl) (ci (hR.ok h8 (by omega) h10).symm) en
end Go.Proofs.Ytmfgnbchehnpjaa.V
/- Determinants: the numbers that the data of rows are divided to are whole, and the data say what elimination says. -/
set_option linter.unusedVariables false
namespace Go.Proofs.Ytmfgnbchehnpjaa.V
open Mt Nml
abbrev Rw := Nat → Rat
/-- The sum along a column, row by row. -/
def sm (f : List Rw → Rat) (c : Nat) : List Rw → List Rw → Rat
  | _, [] => 0
  | pre, r :: rest => r c * f (pre ++ rest) - sm f c (pre ++ [r]) rest
/-- The determinant of n rows from column c on. -/
def Dt : Nat → Nat → List Rw → Rat
  | 0, _, _ => 1
  | n + 1, c, l => sm (Dt n (c + 1)) c [] l
def addm (x : Rw) (q : Rat) (y : Rw) : Rw := fun j => x j + q * y j
def LinD (n : Nat) (f : List Rw → Rat) : Prop := ∀ A x y q B, A.length + B.length + 1 = n → f (A ++ addm x q y :: B) = f (A ++ x :: B) + q * f (A ++ y :: B)
def AltD (n : Nat) (f : List Rw → Rat) : Prop := ∀ A x y B, A.length + B.length + 2 = n → f (A ++ x :: y :: B) = -f (A ++ y :: x :: B)
theorem sm_lin_pre {n c : Nat} {f : List Rw → Rat} (hf : LinD n f) {P : List Rw} {x y : Rw} {q : Rat} : ∀ (rest Q : List Rw), P.length + Q.length + rest.length = n → sm f c (P ++ addm x q y :: Q) rest = sm f c (P ++ x :: Q) rest + q * sm f c (P ++ y :: Q) rest
  | [], Q, _ => by show (0 : Rat) = 0 + q * 0; grind
  | r :: rest, Q, h => by
    have e : ∀ z : Rw, sm f c (P ++ z :: Q) (r :: rest) = r c * f (P ++ z :: (Q ++ rest)) - sm f c (P ++ z :: (Q ++ [r])) rest := fun z => by
      show r c * f ((P ++ z :: Q) ++ rest) - sm f c ((P ++ z :: Q) ++ [r]) rest = _
      simp only [List.append_assoc, List.cons_append]
    simp only [List.length_cons] at h
    rw [e, e, e, hf P x y q (Q ++ rest) (by simp only [List.length_append]; omega), sm_lin_pre hf rest (Q ++ [r]) (by simp only [List.length_append, List.length_cons, List.length_nil]; omega)]
    grind
theorem sm_lin {n c : Nat} {f : List Rw → Rat} (hf : LinD n f) {x y : Rw} {q : Rat} {B : List Rw} : ∀ (A pre : List Rw), pre.length + A.length + B.length = n → sm f c pre (A ++ addm x q y :: B) = sm f c pre (A ++ x :: B) + q * sm f c pre (A ++ y :: B)
  | [], pre, h => by
    show (x c + q * y c) * f (pre ++ B) - sm f c (pre ++ [addm x q y]) B = (x c * f (pre ++ B) - sm f c (pre ++ [x]) B) + q * (y c * f (pre ++ B) - sm f c (pre ++ [y]) B)
    rw [sm_lin_pre hf B [] (by simpa using h)]
    grind
  | a :: A, pre, h => by
    simp only [List.length_cons] at h
    have e : ∀ z : Rw, sm f c pre ((a :: A) ++ z :: B) = a c * f ((pre ++ A) ++ z :: B) - sm f c (pre ++ [a]) (A ++ z :: B) := fun z => by
      show a c * f (pre ++ (A ++ z :: B)) - sm f c (pre ++ [a]) (A ++ z :: B) = _
      rw [← List.append_assoc]
    rw [e, e, e, hf (pre ++ A) x y q B (by simp only [List.length_append]; omega), sm_lin hf A (pre ++ [a]) (by simp only [List.length_append, List.length_cons, List.length_nil]; omega)]
    grind
theorem sm_alt_pre {n c : Nat} {f : List Rw → Rat} (hf : AltD n f) {P : List Rw} {x y : Rw} : ∀ (rest Q : List Rw), P.length + Q.length + 1 + rest.length = n → sm f c (P ++ x :: y :: Q) rest = -sm f c (P ++ y :: x :: Q) rest
  | [], Q, _ => by show (0 : Rat) = -0; grind
  | r :: rest, Q, h => by
    have e : ∀ z w : Rw, sm f c (P ++ z :: w :: Q) (r :: rest) = r c * f (P ++ z :: w :: (Q ++ rest)) - sm f c (P ++ z :: w :: (Q ++ [r])) rest := fun z w => by
      show r c * f ((P ++ z :: w :: Q) ++ rest) - sm f c ((P ++ z :: w :: Q) ++ [r]) rest = _
      simp only [List.append_assoc, List.cons_append]
    simp only [List.length_cons] at h
    rw [e, e, hf P x y (Q ++ rest) (by simp only [List.length_append]; omega), sm_alt_pre hf rest (Q ++ [r]) (by simp only [List.length_append, List.length_cons, List.length_nil]; omega)]
    grind
theorem sm_alt {n c : Nat} {f : List Rw → Rat} (hf : AltD n f) {x y : Rw} {B : List Rw} : ∀ (A pre : List Rw), pre.length + A.length + B.length + 1 = n → sm f c pre (A ++ x :: y :: B) = -sm f c pre (A ++ y :: x :: B)
  | [], pre, h => by
    have e : ∀ z w : Rw, sm f c pre (z :: w :: B) = z c * f (pre ++ w :: B) - (w c * f (pre ++ z :: B) - sm f c (pre ++ z :: w :: []) B) := fun z w => by
      show z c * f (pre ++ w :: B) - (w c * f ((pre ++ [z]) ++ B) - sm f c ((pre ++ [z]) ++ [w]) B) = _
      simp only [List.append_assoc, List.cons_append, List.nil_append]
    show sm f c pre (x :: y :: B) = -sm f c pre (y :: x :: B)
    rw [e, e, sm_alt_pre (x := x) (y := y) hf B [] (by simp only [List.length_nil] at h ⊢; omega)]
    grind
  | a :: A, pre, h => by
    simp only [List.length_cons] at h
    have e : ∀ z w : Rw, sm f c pre ((a :: A) ++ z :: w :: B) = a c * f ((pre ++ A) ++ z :: w :: B) - sm f c (pre ++ [a]) (A ++ z :: w :: B) := fun z w => by
      show a c * f (pre ++ (A ++ z :: w :: B)) - sm f c (pre ++ [a]) (A ++ z :: w :: B) = _
      rw [← List.append_assoc]
    rw [e, e, hf (pre ++ A) x y B (by simp only [List.length_append]; omega), sm_alt hf A (pre ++ [a]) (by simp only [List.length_append, List.length_cons, List.length_nil]; omega)]
    grind
theorem dt_lin : ∀ n c, LinD n (Dt n c)
  | 0, c => fun A x y q B h => absurd h (by omega)
  | n + 1, c => fun A x y q B h => sm_lin (dt_lin n (c + 1)) A [] (by simp only [List.length_nil]; omega)
theorem dt_alt : ∀ n c, AltD n (Dt n c)
  | 0, c => fun A x y B h => absurd h (by omega)
  | n + 1, c => fun A x y B h => sm_alt (dt_alt n (c + 1)) A [] (by simp only [List.length_nil]; omega)
theorem dup_zero {n : Nat} {f : List Rw → Rat} (hf : AltD n f) {x : Rw} {C : List Rw} : ∀ (B A : List Rw), A.length + B.length + C.length + 2 = n → f (A ++ x :: (B ++ x :: C)) = 0
  | [], A, h => by
    have := hf A x x C (by simp only [List.length_nil] at h; omega)
    show f (A ++ x :: x :: C) = 0
    grind
  | b :: B, A, h => by
    simp only [List.length_cons] at h
    have h1 := hf A x b (B ++ x :: C) (by simp only [List.length_append, List.length_cons]; omega)
    have h2 := dup_zero hf (x := x) (C := C) B (A ++ [b]) (by simp only [List.length_append, List.length_cons, List.length_nil]; omega)
    rw [List.append_assoc] at h2
    show f (A ++ x :: b :: (B ++ x :: C)) = 0
    rw [h1]
    show -f (A ++ ([b] ++ x :: (B ++ x :: C))) = 0
    rw [h2]
    grind
def eln (c : Nat) (x r : Rw) : Rw := addm r (-(r c / x c)) x
theorem eln_all {n c : Nat} {x : Rw} : ∀ (l A : List Rw), A.length + l.length + 1 = n → Dt n c (x :: (A ++ l)) = Dt n c (x :: (A ++ l.map (eln c x)))
  | [], A, _ => rfl
  | r :: l, A, h => by
    simp only [List.length_cons] at h
    have h1 := dt_lin n c (x :: A) r x (-(r c / x c)) l (by simp only [List.length_cons]; omega)
    have h2 := dup_zero (dt_alt n c) (x := x) (C := l) A [] (by simp only [List.length_nil]; omega)
    have h3 := eln_all (n := n) (c := c) (x := x) l (A ++ [eln c x r]) (by simp only [List.length_append, List.length_cons, List.length_nil]; omega)
    rw [List.append_assoc, List.append_assoc] at h3
    show Dt n c (x :: (A ++ r :: l)) = Dt n c (x :: (A ++ ([eln c x r] ++ l.map (eln c x))))
    rw [← h3]
    show Dt n c ((x :: A) ++ r :: l) = Dt n c ((x :: A) ++ eln c x r :: l)
    unfold eln
    rw [h1]
    have h2' : Dt n c ((x :: A) ++ x :: l) = 0 := h2
    rw [h2']
    grind
theorem sm_zero {f : List Rw → Rat} {c : Nat} : ∀ (l pre : List Rw), (∀ r ∈ l, r c = 0) → sm f c pre l = 0
  | [], _, _ => rfl
  | r :: l, pre, h => by
    show r c * f (pre ++ l) - sm f c (pre ++ [r]) l = 0
    rw [h r List.mem_cons_self, sm_zero l _ (fun q hq => h q (List.mem_cons_of_mem _ hq))]
    grind
theorem dt_step {n c : Nat} {x : Rw} {l : List Rw} (hx : x c ≠ 0) (hl : l.length = n) : Dt (n + 1) c (x :: l) = x c * Dt n (c + 1) (l.map (eln c x)) := by
  rw [show x :: l = x :: ([] ++ l) from rfl, eln_all l [] (by simp only [List.length_nil]; omega)]
  show x c * Dt n (c + 1) (l.map (eln c x)) - sm (Dt n (c + 1)) c [x] (l.map (eln c x)) = _
  rw [sm_zero _ _ (fun r hr => by
    obtain ⟨q, _, rfl⟩ := List.mem_map.1 hr
    show q c + -(q c / x c) * x c = 0
    rw [Rat.neg_mul, Rat.div_mul_cancel hx]
    grind)]
  grind
/-- The rows behind k steps of elimination. -/
def Mr (g : Nat → Rw) : Nat → Nat → Rw
  | 0, i => g i
  | k + 1, i => eln k (Mr g k k) (Mr g k i)
def pr (g : Nat → Rw) (t : Nat) : Nat → Rat
  | 0 => 1
  | d + 1 => Mr g t t t * pr g (t + 1) d
theorem pr_snoc (g : Nat → Rw) : ∀ d t, pr g t (d + 1) = pr g t d * Mr g (t + d) (t + d) (t + d)
  | 0, t => by show Mr g t t t * 1 = 1 * Mr g (t + 0) (t + 0) (t + 0); rw [Nat.add_zero]; grind
  | d + 1, t => by
    show Mr g t t t * pr g (t + 1) (d + 1) = Mr g t t t * pr g (t + 1) d * _
    rw [pr_snoc g d (t + 1), show t + 1 + d = t + (d + 1) by omega]
    grind
theorem det_M (g : Nat → Rw) (i : Nat) : ∀ d t, (∀ s, t ≤ s → s < t + d → Mr g s s s ≠ 0) → Dt (d + 1) t ((List.range' t d).map (Mr g t) ++ [Mr g t i]) = pr g t d * Mr g (t + d) i (t + d)
  | 0, t, _ => by
    show Mr g t i t * 1 - 0 = 1 * Mr g (t + 0) i (t + 0)
    rw [Nat.add_zero]; grind
  | d + 1, t, h => by
    rw [List.range'_succ, List.map_cons, List.cons_append, dt_step (h t (Nat.le_refl _) (by omega)) (by simp), List.map_append, List.map_map]
    have := det_M g i d (t + 1) (fun s h1 h2 => h s (by omega) (by omega))
    rw [show t + (d + 1) = t + 1 + d by omega]
    show Mr g t t t * Dt (d + 1) (t + 1) (List.map (Mr g (t + 1)) (List.range' (t + 1) d) ++ [Mr g (t + 1) i]) = Mr g t t t * pr g (t + 1) d * _
    rw [this]
    grind
def IsW (q : Rat) : Prop := ∃ z : Int, q = (z : Rat)
theorem IsW.mul {a b : Rat} (h : IsW a) (k : IsW b) : IsW (a * b) := by obtain ⟨x, rfl⟩ := h; obtain ⟨y, rfl⟩ := k; exact ⟨x * y, (Rat.intCast_mul x y).symm⟩
theorem IsW.sub {a b : Rat} (h : IsW a) (k : IsW b) : IsW (a - b) := by obtain ⟨x, rfl⟩ := h; obtain ⟨y, rfl⟩ := k; exact ⟨x - y, (Rat.intCast_sub x y).symm⟩
theorem IsW.one : IsW 1 := ⟨1, rfl⟩
theorem IsW.zero : IsW 0 := ⟨0, rfl⟩
theorem sm_int {f : List Rw → Rat} {c : Nat} (hf : ∀ l : List Rw, (∀ r ∈ l, ∀ j, IsW (r j)) → IsW (f l)) : ∀ (l pre : List Rw), (∀ r ∈ l, ∀ j, IsW (r j)) → (∀ r ∈ pre, ∀ j, IsW (r j)) → IsW (sm f c pre l)
  | [], _, _, _ => IsW.zero
  | r :: l, pre, h, hp => by
    refine ((h r List.mem_cons_self c).mul (hf _ fun q hq => ?_)).sub (sm_int hf l _ (fun q hq => h q (List.mem_cons_of_mem _ hq)) fun q hq => ?_)
    · rcases List.mem_append.1 hq with h1 | h1
      · exact hp q h1
      · exact h q (List.mem_cons_of_mem _ h1)
    · rcases List.mem_append.1 hq with h1 | h1
      · exact hp q h1
      · rw [List.mem_singleton.1 h1]; exact h r List.mem_cons_self
theorem dt_int : ∀ n c (l : List Rw), (∀ r ∈ l, ∀ j, IsW (r j)) → IsW (Dt n c l)
  | 0, _, _, _ => IsW.one
  | n + 1, c, l, h => sm_int (dt_int n (c + 1)) l [] h (fun r hr => by cases hr)
theorem mr_col (g : Nat → Rw) (k j : Nat) : ∀ t, t ≤ k → ∀ i c, Mr (fun s c => if c < k then g s c else g s j) t i c = Mr g t i (if c < k then c else j)
  | 0, _, i, c => by show (if c < k then g i c else g i j) = g i _; split <;> rfl
  | t + 1, h, i, c => by
    have ih := mr_col g k j t (by omega)
    show Mr _ t i c + -(Mr _ t i t / Mr _ t t t) * Mr _ t t c = Mr g t i _ + -(Mr g t i t / Mr g t t t) * Mr g t t _
    rw [ih i c, ih i t, ih t t, ih t c, if_pos (show t < k by omega)]
theorem pr_col (g : Nat → Rw) (k j : Nat) : ∀ d t, t + d ≤ k → pr (fun s c => if c < k then g s c else g s j) t d = pr g t d
  | 0, _, _ => rfl
  | d + 1, t, h => by
    show Mr _ t t t * pr _ (t + 1) d = _ * _
    rw [pr_col g k j d (t + 1) (by omega), mr_col g k j t (by omega) t t, if_pos (show t < k by omega)]
/-- The numerators are whole. -/
theorem minor_int {g : Nat → Rw} (hg : ∀ s c, IsW (g s c)) {k : Nat} (hp : ∀ s, s < k → Mr g s s s ≠ 0) (i j : Nat) : IsW (pr g 0 k * Mr g k i j) := by
  have h := det_M (fun s c => if c < k then g s c else g s j) i k 0 (fun s _ hs => by
    rw [mr_col g k j s (by omega), if_pos (show s < k by omega)]; exact hp s (by omega))
  rw [pr_col g k j k 0 (by omega), Nat.zero_add, mr_col g k j k (Nat.le_refl _), if_neg (Nat.lt_irrefl k)] at h
  rw [← h]
  refine dt_int _ _ _ fun r hr c => ?_
  have hz : ∀ s c, IsW ((fun (s c : Nat) => if c < k then g s c else g s j) s c) := fun s c => by show IsW (if c < k then g s c else g s j); split <;> exact hg _ _
  rcases List.mem_append.1 hr with h1 | h1
  · obtain ⟨q, _, rfl⟩ := List.mem_map.1 h1; exact hz q c
  · rw [List.mem_singleton.1 h1]; exact hz i c
theorem mr_symm {g : Nat → Rw} (hg : ∀ i j, g i j = g j i) : ∀ k i j, Mr g k i j = Mr g k j i
  | 0, i, j => hg i j
  | k + 1, i, j => by
    show Mr g k i j + -(Mr g k i k / Mr g k k k) * Mr g k k j = Mr g k j i + -(Mr g k j k / Mr g k k k) * Mr g k k i
    rw [mr_symm hg k i j, mr_symm hg k k j, mr_symm hg k k i, Rat.div_def, Rat.div_def]
    grind
/-- The products of rows, as fractions. -/
def gU (b : List (List Int)) (i j : Nat) : Int := dotU (b.getD i []) (b.getD j []) (b.getD i []).length
def gR (b : List (List Int)) (i : Nat) : Rw := fun j => ((gU b i j : Int) : Rat)
theorem dotU_comm (xs ys : List Int) : ∀ n, dotU xs ys n = dotU ys xs n
  | 0 => rfl
  | n + 1 => by show dotU xs ys n + _ = dotU ys xs n + _; rw [dotU_comm xs ys n, Int.mul_comm]
/-- Products behind the length are nought. -/
theorem dotU_more {xs ys : List Int} {m : Nat} (h : xs.length ≤ m) : ∀ d, dotU xs ys (m + d) = dotU xs ys m
  | 0 => rfl
  | d + 1 => by
    show dotU xs ys (m + d) + xs.getD (m + d) 0 * _ = _
    rw [dotU_more h d, show xs.getD (m + d) 0 = 0 from by rw [List.getD_eq_getElem?_getD, List.getElem?_eq_none (by omega)]; rfl, Int.zero_mul, Int.add_zero]
theorem gU_symm (b : List (List Int)) (i j : Nat) : gU b i j = gU b j i := by
  unfold gU
  rcases Nat.le_total (b.getD i []).length (b.getD j []).length with h | h
  · obtain ⟨d, hd⟩ := Nat.le.dest h
    rw [← hd, dotU_comm (b.getD j []), dotU_more (Nat.le_refl _) d]
  · obtain ⟨d, hd⟩ := Nat.le.dest h
    rw [← hd, dotU_comm, dotU_more (Nat.le_refl _) d]
theorem gR_symm (b : List (List Int)) (i j : Nat) : gR b i j = gR b j i := by show ((gU b i j : Int) : Rat) = _; rw [gU_symm]; rfl
theorem gR_int (b : List (List Int)) (i j : Nat) : IsW (gR b i j) := ⟨_, rfl⟩
/-- All pivots ahead of n are above nought. -/
def Ok (b : List (List Int)) (n : Nat) : Prop := ∀ k, k < n → 0 < Mr (gR b) k k k
abbrev pb (b : List (List Int)) (k : Nat) : Rat := pr (gR b) 0 k
theorem pb_succ (b : List (List Int)) (k : Nat) : pb b (k + 1) = pb b k * Mr (gR b) k k k := by have := pr_snoc (gR b) k 0; rw [Nat.zero_add] at this; exact this
theorem pb_pos {b : List (List Int)} {n : Nat} (h : Ok b n) : ∀ k, k ≤ n → 0 < pb b k
  | 0, _ => by show (0 : Rat) < 1; decide
  | k + 1, hk => by rw [pb_succ]; exact Rat.mul_pos (pb_pos h k (by omega)) (h k (by omega))
theorem rat_pos_ne {q : Rat} (h : 0 < q) : q ≠ 0 := fun e => by rw [e] at h; exact absurd h (Rat.lt_irrefl)
theorem ok_ne {b : List (List Int)} {n : Nat} (h : Ok b n) {k : Nat} (hk : k < n) : Mr (gR b) k k k ≠ 0 := rat_pos_ne (h k hk)
/-- What the data say, so far. -/
structure DI (b : List (List Int)) (i : Nat) (D : List Int) (L : List (List Int)) : Prop where
  lD : D.length = i + 1
  lL : L.length = i
  ok : Ok b i
  d : ∀ k, k ≤ i → ((D.getD k 0 : Int) : Rat) = pb b k
  lr : ∀ j, j < i → (L.getD j []).length = j
  l : ∀ j k, j < i → k < j → (((L.getD j []).getD k 0 : Int) : Rat) = pb b k * Mr (gR b) k j k
theorem fdiv_exact {x d z : Int} (hd : d ≠ 0) (h : x = d * z) : Int.fdiv x d = z := by subst h; exact Int.mul_fdiv_cancel_left z hd
theorem step_exact {b : List (List Int)} {D Lr row : List Int} {i j k : Nat} {u : Int} (hok : Ok b (k + 1)) (h0 : ((D.getD k 0 : Int) : Rat) = pb b k) (h1 : ((D.getD (k + 1) 0 : Int) : Rat) = pb b (k + 1)) (hu : ((u : Int) : Rat) = pb b k * Mr (gR b) k i j) (hr : ((row.getD k 0 : Int) : Rat) = pb b k * Mr (gR b) k i k) (hl : ((Lr.getD k 0 : Int) : Rat) = pb b k * Mr (gR b) k j k) : ((stepU D Lr row k u : Int) : Rat) = pb b (k + 1) * Mr (gR b) (k + 1) i j := by
  obtain ⟨z, hz⟩ := minor_int (gR_int b) (k := k + 1) (fun s hs => ok_ne hok hs) i j
  have hp := rat_pos_ne (pb_pos hok k (by omega))
  have hm := ok_ne hok (Nat.lt_succ_self k)
  have e : D.getD (k + 1) 0 * u - row.getD k 0 * Lr.getD k 0 = D.getD k 0 * z := by
    refine Rat.intCast_inj.1 ?_
    rw [Rat.intCast_sub, Rat.intCast_mul, Rat.intCast_mul, Rat.intCast_mul, h0, h1, hu, hr, hl, ← hz]
    show pb b (k + 1) * (pb b k * Mr (gR b) k i j) - pb b k * Mr (gR b) k i k * (pb b k * Mr (gR b) k j k) = pb b k * (pb b (k + 1) * (Mr (gR b) k i j + -(Mr (gR b) k i k / Mr (gR b) k k k) * Mr (gR b) k k j))
    rw [pb_succ, mr_symm (gR_symm b) k k j]
    generalize Mr (gR b) k k k = m at hm
    generalize Mr (gR b) k i k = x
    generalize Mr (gR b) k j k = y
    generalize pb b k = p at hp
    grind
  have hd : D.getD k 0 ≠ 0 := fun e0 => by rw [e0] at h0; exact hp h0.symm
  unfold stepU
  rw [fdiv_exact hd e, hz]
theorem red_exact {b : List (List Int)} {D : List Int} {L : List (List Int)} {row : List Int} {i j : Nat} (h : DI b i D L) (hji : j ≤ i) (hr : ∀ k, k < j → ((row.getD k 0 : Int) : Rat) = pb b k * Mr (gR b) k i k) : ∀ k, k ≤ j → ((redU D (pickL L row i j) row (gU b i j) k : Int) : Rat) = pb b k * Mr (gR b) k i j
  | 0, _ => by show ((gU b i j : Int) : Rat) = 1 * ((gU b i j : Int) : Rat); grind
  | k + 1, hk => by
    refine step_exact (fun s hs => h.ok s (by omega)) (h.d k (by omega)) (h.d (k + 1) (by omega)) (red_exact h hji hr k (by omega)) (hr k (by omega)) ?_
    unfold pickL
    split
    · exact h.l j k (by assumption) (by omega)
    · have : j = i := by omega
      subst this; exact hr k (by omega)
theorem row_len {b : List (List Int)} {D : List Int} {L : List (List Int)} {i : Nat} : ∀ j, (rowU b D L i j).length = j
  | 0 => rfl
  | j + 1 => by unfold rowU; rw [List.length_append, row_len j]; rfl
theorem row_exact {b : List (List Int)} {D : List Int} {L : List (List Int)} {i : Nat} (h : DI b i D L) : ∀ j, j ≤ i + 1 → ∀ k, k < j → (((rowU b D L i j).getD k 0 : Int) : Rat) = pb b k * Mr (gR b) k i k
  | 0, _, k, hk => absurd hk (Nat.not_lt_zero _)
  | j + 1, hj, k, hk => by
    unfold rowU
    rcases Nat.lt_or_ge k j with h1 | h1
    · rw [gl_lt (by rw [row_len]; exact h1)]; exact row_exact h j (by omega) k h1
    · rw [gl_eq (by rw [row_len]; omega), show k = j by omega]
      exact red_exact h (by omega) (fun k hk => row_exact h j (by omega) k hk) j (Nat.le_refl _)
theorem row_pos {b : List (List Int)} {D : List Int} {L : List (List Int)} {i : Nat} (h : DI b i D L) : 0 < (rowU b D L i (i + 1)).getD i 0 ↔ 0 < Mr (gR b) i i i := by
  have e := row_exact h (i + 1) (Nat.le_refl _) i (Nat.lt_succ_self i)
  have hp := pb_pos h.ok i (Nat.le_refl _)
  rw [← Rat.intCast_lt_intCast, e]
  show (0 : Rat) < _ ↔ _
  constructor
  · intro h1
    by_cases h2 : 0 < Mr (gR b) i i i
    · exact h2
    · exfalso
      replace h2 := Rat.not_lt.1 h2
      have := Rat.mul_le_mul_of_nonneg_left h2 (Rat.le_of_lt hp)
      rw [Rat.mul_zero] at this
      exact absurd h1 (Rat.not_lt.2 this)
  · exact Rat.mul_pos hp
theorem DI.zero (b : List (List Int)) : DI b 0 [1] [] := ⟨rfl, rfl, fun k hk => absurd hk (Nat.not_lt_zero _), fun k hk => by rw [show k = 0 by omega]; rfl, fun j hj => absurd hj (Nat.not_lt_zero _), fun j k hj => absurd hj (Nat.not_lt_zero _)⟩
theorem DI.step {b : List (List Int)} {D : List Int} {L : List (List Int)} {i : Nat} (h : DI b i D L) (hp : 0 < (rowU b D L i (i + 1)).getD i 0) : DI b (i + 1) (D ++ [(rowU b D L i (i + 1)).getD i 0]) (L ++ [(rowU b D L i (i + 1)).take i]) := by
  have hm := (row_pos h).1 hp
  have hr := row_exact h (i + 1) (Nat.le_refl _)
  refine ⟨by rw [List.length_append, h.lD]; rfl, by rw [List.length_append, h.lL]; rfl, fun k hk => ?_, fun k hk => ?_, fun j hj => ?_, fun j k hj hk => ?_⟩
  · rcases Nat.lt_or_ge k i with h1 | h1
    · exact h.ok k h1
    · rw [show k = i by omega]; exact hm
  · rcases Nat.lt_or_ge k (i + 1) with h1 | h1
    · rw [gl_lt (by rw [h.lD]; exact h1)]; exact h.d k (by omega)
    · rw [gl_eq (by rw [h.lD]; omega), show k = i + 1 by omega, hr i (Nat.lt_succ_self i), pb_succ]
  · rcases Nat.lt_or_ge j i with h1 | h1
    · rw [gl_lt (by rw [h.lL]; exact h1)]; exact h.lr j h1
    · rw [gl_eq (by rw [h.lL]; omega), List.length_take, row_len]; omega
  · rcases Nat.lt_or_ge j i with h1 | h1
    · rw [gl_lt (by rw [h.lL]; exact h1)]; exact h.l j k h1 hk
    · rw [gl_eq (by rw [h.lL]; omega), take_getD (by omega), hr k (by omega), show j = i by omega]
theorem bld_DI {b : List (List Int)} : ∀ {i : Nat} {D : List Int} {L : List (List Int)}, bld b i = some (D, L) → DI b i D L
  | 0, D, L, h => by cases h; exact DI.zero b
  | i + 1, D, L, h => by
    obtain ⟨D', L', h1, h2, h3⟩ := bld_prev h
    cases h3
    exact (bld_DI h1).step h2
end Go.Proofs.Ytmfgnbchehnpjaa.V
/- The data of rows, and what refuses them. -/
set_option linter.unusedVariables false
set_option linter.unusedSimpArgs false
set_option maxRecDepth 100000
namespace Go.Proofs.Ytmfgnbchehnpjaa.V
open Go.RowKit Mt Nml
theorem g_built_no {b : List (List Int)} {kb m S K : Nat} (h : bld b b.length = none) (hbl : b.length ≤ 12) (hm : ∀ i, i < b.length → (b.getD i []).length = m) (hmm : m ≤ 1048576) (hkb : kb ≤ 1048576) (hS : ∀ i j, i < b.length → j ≤ i → zl (dotU (b.getD i []) (b.getD j []) (b.getD i []).length) ≤ S) (hK1 : bd S 12 ≤ K) (hK2 : K ≤ 137438953472) (hK3 : 2 ≤ K) : Fn Try.prog 132 [T.l (cL (cZi kb)) b] [] [] [] (T.tup [T.st [T.c (.slice none 0 0), T.c (.slice none 0 0)], T.c (.bool false)]) := by
  refine fn_of Try.func132 rfl (by show 1 ≤ 114; decide) fun cx hcx => ?_
  refine tri_sub (sl 0 rfl sn) en ?_
  have hmb : ∀ i, i < b.length → zl (dotU (b.getD i []) (b.getD i []) (b.getD i []).length) ≤ S := fun i hi => hS i i hi (Nat.le_refl _)
  have hSK : S ≤ K := Nat.le_trans (by have := bd_mono (S := S) (Nat.zero_le 12); rwa [bd_zero] at this) hK1
  refine tri_seq ?_
  refine tri_reg mixed hcx ?_ _ _
  refine nw 10 zeG ?_
  refine asg rfl ?_
  refine ⟨by kernel_rfl, ?_⟩
  refine nx (sl 0 rfl (sl 2 rfl sn)) (el 10 rfl en) ?_
  refine tri_seq ?_
  refine tri_reg mixed hcx ?_ _ _
  refine ca rfl (h := zi_Of (by omega) (by omega)) (hn := ?_)
  refine bso (c := cZ K) (xs := [1]) 111 slZs rfl ⟨z_up (by omega), trivial⟩ ?_
  refine bu stG rfl ?_
  refine nw 113 zeG ?_
  refine sts rfl rfl rfl tyG rfl ?_
  refine ⟨by kernel_rfl, ?_⟩
  refine nx (sl 0 rfl (sl 2 rfl (sl 4 rfl sn))) (el 10 rfl (el 111 rfl (el 113 rfl (el 113 rfl en)))) ?_
  refine tri_seq ?_
  refine tri_seq ?_
  refine tri_nilb (cL (cZ K)) 24 (bl := [T.o 111, T.c (.slice none 0 0)]) (bl' := [T.o 111, T.o 9]) 113 9 rfl ⟨.inl ⟨rfl, by show 9 ∉ [111]; decide⟩, .inr ⟨rfl, rfl⟩, trivial⟩ (by rw [hcx]; kernel_rfl) ?_
  refine tri_reg mixed hcx ?_ _ _
  refine mv rfl ?_
  refine ln slZss rfl ?_
  refine mv rfl ?_
  refine ⟨by kernel_rfl, ?_⟩
  refine nx (sl 0 rfl (sl 2 rfl (sl 4 rfl (sl 16 rfl (sl 17 rfl sn))))) (el 10 rfl (el 111 rfl (el 113 rfl (el 113 rfl (el 9 rfl en))))) ?_
  refine tri_block ?_
  refine tri_loop (ι := Nat × List Int × List (List Int)) (fun (i, D, L) => [(0, T.l (cL (cZi kb)) b), (2, T.p 10 0), (4, T.p 113 0), (16, T.c (.int .i64 (b.length : Int))), (17, T.c (.int .i64 (i : Int)))]) (fun (i, D, L) => [(10, some (Ent.box 26 [T.c (.slice none 0 0), T.c (.slice none 0 0)])), (111, some (Ent.row (cZ K) 41 (D))), (9, some (Ent.row (cL (cZ K)) 24 (L))), (113, some (Ent.box 26 [T.o 111, T.o 9]))]) (fun (i, D, L) => b.length - i) (fun (i, D, L) => (i ≤ b.length) ∧ (bld b i = some (D, L)) ∧ (BI S i D L)) (0, [1], []) ⟨Nat.zero_le _, rfl, BI.zero S⟩ (sl 0 rfl (sl 2 rfl (sl 4 rfl (sl 16 rfl (sl 17 rfl sn))))) (el 10 rfl (el 111 rfl (el 9 rfl (el 113 rfl en)))) ?_
  rintro ⟨i, D, L⟩ ⟨hi, hb, hB⟩
  refine tri_sub (sl 0 rfl (sl 2 rfl (sl 4 rfl (sl 16 rfl (sl 17 rfl sn))))) (el 10 rfl (el 111 rfl (el 9 rfl (el 113 rfl en)))) ?_
  refine tri_seq ?_
  refine tri_reg mixed hcx ?_ _ _
  refine clt rfl rfl rfl ?_
  refine ⟨by kernel_rfl, ?_⟩
  refine nx (sl 0 rfl (sl 2 rfl (sl 4 rfl (sl 16 rfl (sl 17 rfl (sl 18 rfl sn)))))) (el 10 rfl (el 111 rfl (el 9 rfl (el 113 rfl en)))) ?_
  refine tri_seq ?_
  refine tri_if rfl (fun hc => ?_) (fun hc => ?_)
  · have hmi : (b.getD i (cL (cZi kb)).dflt).length = m := hm i (by omega)
    have hDl := hB.hD; have hLl := hB.hL
    refine tri_skip ?_
    refine nx (sl 0 rfl (sl 2 rfl (sl 4 rfl (sl 16 rfl (sl 17 rfl sn))))) (el 10 rfl (el 111 rfl (el 9 rfl (el 113 rfl en)))) ?_
    refine tri_seq ?_
    refine tri_block ?_
    refine tri_seq ?_
    refine tri_reg mixed hcx ?_ _ _
    refine mv rfl ?_
    refine asg rfl ?_
    refine ⟨by kernel_rfl, ?_⟩
    refine nx (sl 0 rfl (sl 2 rfl (sl 4 rfl (sl 5 rfl (sl 16 rfl (sl 17 rfl sn)))))) (el 10 rfl (el 111 rfl (el 9 rfl (el 113 rfl en)))) ?_
    refine tri_seq ?_
    refine tri_reg mixed hcx ?_ _ _
    refine mv rfl ?_
    refine ad (((i + 1 : Nat) : Int)) rfl rfl rfl (by omega) ?_
    refine mk0 (c := (cZ K)) (n := i + 1) 512 slZs rfl rfl (by omega) (by decide) ?_
    refine asg rfl ?_
    refine ⟨by kernel_rfl, ?_⟩
    refine nx (sl 0 rfl (sl 2 rfl (sl 4 rfl (sl 5 rfl (sl 6 rfl (sl 16 rfl (sl 17 rfl sn))))))) (el 10 rfl (el 111 rfl (el 9 rfl (el 113 rfl (el 512 rfl en))))) ?_
    refine tri_seq ?_
    refine tri_seq ?_
    refine tri_reg mixed hcx ?_ _ _
    refine asg rfl ?_
    refine ⟨by kernel_rfl, ?_⟩
    refine nx (sl 0 rfl (sl 2 rfl (sl 4 rfl (sl 5 rfl (sl 6 rfl (sl 7 rfl (sl 16 rfl (sl 17 rfl sn)))))))) (el 10 rfl (el 111 rfl (el 9 rfl (el 113 rfl (el 512 rfl en))))) ?_
    refine tri_block ?_
    refine tri_loop (ι := Nat) (fun j => [(0, T.l (cL (cZi kb)) b), (2, T.p 10 0), (4, T.p 113 0), (5, T.c (.int .i64 (i : Int))), (6, T.o 512), (7, T.c (.int .i64 (j : Int))), (16, T.c (.int .i64 (b.length : Int))), (17, T.c (.int .i64 (i : Int)))]) (fun j => [(10, some (Ent.box 26 [T.c (.slice none 0 0), T.c (.slice none 0 0)])), (111, some (Ent.row (cZ K) 41 (D))), (9, some (Ent.row (cL (cZ K)) 24 (L))), (113, some (Ent.box 26 [T.o 111, T.o 9])), (512, some (Ent.row (cZ K) 41 ((rowU b D L i j))))]) (fun j => i + 1 - j) (fun j => (j ≤ i + 1) ∧ (RI S j (rowU b D L i j))) 0 ⟨Nat.zero_le _, RI.zero S⟩ (sl 0 rfl (sl 2 rfl (sl 4 rfl (sl 5 rfl (sl 6 rfl (sl 7 rfl (sl 16 rfl (sl 17 rfl sn)))))))) (el 10 rfl (el 111 rfl (el 9 rfl (el 113 rfl (el 512 rfl en))))) ?_
    rintro j ⟨hj, hR⟩
    refine tri_sub (sl 0 rfl (sl 2 rfl (sl 4 rfl (sl 5 rfl (sl 6 rfl (sl 7 rfl (sl 16 rfl (sl 17 rfl sn)))))))) (el 10 rfl (el 111 rfl (el 9 rfl (el 113 rfl (el 512 rfl en))))) ?_
    refine tri_seq ?_
    refine tri_seq ?_
    refine tri_reg mixed hcx ?_ _ _
    refine mv rfl ?_
    refine mv rfl ?_
    refine cle rfl rfl rfl ?_
    refine ⟨by kernel_rfl, ?_⟩
    refine nx (sl 0 rfl (sl 2 rfl (sl 4 rfl (sl 5 rfl (sl 6 rfl (sl 7 rfl (sl 16 rfl (sl 17 rfl (sl 25 rfl sn))))))))) (el 10 rfl (el 111 rfl (el 9 rfl (el 113 rfl (el 512 rfl en))))) ?_
    refine tri_if rfl (fun hd => ?_) (fun hd => ?_)
    · have hmj : (b.getD j (cL (cZi kb)).dflt).length = m := hm j (by omega)
      have hRl := hR.len
      refine tri_skip ?_
      refine nx (sl 0 rfl (sl 2 rfl (sl 4 rfl (sl 5 rfl (sl 6 rfl (sl 7 rfl (sl 16 rfl (sl 17 rfl sn)))))))) (el 10 rfl (el 111 rfl (el 9 rfl (el 113 rfl (el 512 rfl en))))) ?_
      refine tri_seq ?_
      refine tri_block ?_
      refine tri_seq ?_
      refine tri_reg mixed hcx ?_ _ _
      refine mv rfl ?_
      refine mv rfl ?_
      refine ix rfl rfl slZss ⟨rfl, by omega⟩ ?_
      refine lf rfl tyZs ?_
      refine mv rfl ?_
      refine mv rfl ?_
      refine ix rfl rfl slZss ⟨rfl, by omega⟩ ?_
      refine lf rfl tyZs ?_
      refine ca rfl (h := mat_Dot (by omega) (by omega) (by omega) (by omega)) (hn := ?_)
      refine mv rfl ?_
      refine ex rfl rfl ?_
      refine ex rfl rfl ?_
      refine nw 922 zeZ ?_
      refine st rfl rfl rfl tyZ rfl ?_
      refine asg rfl ?_
      refine ⟨by kernel_rfl, ?_⟩
      refine nx (sl 0 rfl (sl 2 rfl (sl 4 rfl (sl 5 rfl (sl 6 rfl (sl 7 rfl (sl 8 rfl (sl 16 rfl (sl 17 rfl sn))))))))) (el 10 rfl (el 111 rfl (el 9 rfl (el 113 rfl (el 512 rfl (el 922 rfl en)))))) ?_
      refine tri_seq ?_
      refine tri_seq ?_
      refine tri_bz 922 rfl fun hz0 => ?_
      have hzS : zl (dotU (b.getD i []) (b.getD j []) (b.getD i []).length) ≤ S := hS i j (by omega) (by omega)
      refine tri_reg mixed hcx ?_ _ _
      refine asg rfl ?_
      refine ⟨by kernel_rfl, ?_⟩
      refine nx (sl 0 rfl (sl 2 rfl (sl 4 rfl (sl 5 rfl (sl 6 rfl (sl 7 rfl (sl 8 rfl (sl 10 rfl (sl 16 rfl (sl 17 rfl sn)))))))))) (el 10 rfl (el 111 rfl (el 9 rfl (el 113 rfl (el 512 rfl (el 922 rfl en)))))) ?_
      refine tri_block ?_
      refine tri_loop (ι := Nat) (fun q => [(0, T.l (cL (cZi kb)) b), (2, T.p 10 0), (4, T.p 113 0), (5, T.c (.int .i64 (i : Int))), (6, T.o 512), (7, T.c (.int .i64 (j : Int))), (8, T.p 922 0), (10, T.c (.int .i64 (q : Int))), (16, T.c (.int .i64 (b.length : Int))), (17, T.c (.int .i64 (i : Int)))]) (fun q => [(10, some (Ent.box 26 [T.c (.slice none 0 0), T.c (.slice none 0 0)])), (111, some (Ent.row (cZ K) 41 (D))), (9, some (Ent.row (cL (cZ K)) 24 (L))), (113, some (Ent.box 26 [T.o 111, T.o 9])), (512, some (Ent.row (cZ K) 41 ((rowU b D L i j)))), (922, some (Ent.box 41 [T.Z (redU D (pickL L (rowU b D L i j) i j) (rowU b D L i j) (dotU (b.getD i []) (b.getD j []) (b.getD i []).length) q) K]))]) (fun q => j - q) (fun q => (q ≤ j)) 0 (Nat.zero_le _) (sl 0 rfl (sl 2 rfl (sl 4 rfl (sl 5 rfl (sl 6 rfl (sl 7 rfl (sl 8 rfl (sl 10 rfl (sl 16 rfl (sl 17 rfl sn)))))))))) (el 10 rfl (el 111 rfl (el 9 rfl (el 113 rfl (el 512 rfl (ew 922 rfl (box_pack1 (show (T.Z _ _).le (T.Z (dotU (b.getD i []) (b.getD j []) (b.getD i []).length) K) from z_as (Nat.le_trans hzS hSK))) en)))))) ?_
      rintro q hq
      refine tri_sub (sl 0 rfl (sl 2 rfl (sl 4 rfl (sl 5 rfl (sl 6 rfl (sl 7 rfl (sl 8 rfl (sl 10 rfl (sl 16 rfl (sl 17 rfl sn)))))))))) (el 10 rfl (el 111 rfl (el 9 rfl (el 113 rfl (el 512 rfl (el 922 rfl en)))))) ?_
      refine tri_seq ?_
      refine tri_seq ?_
      refine tri_reg mixed hcx ?_ _ _
      refine mv rfl ?_
      refine mv rfl ?_
      refine clt rfl rfl rfl ?_
      refine ⟨by kernel_rfl, ?_⟩
      refine nx (sl 0 rfl (sl 2 rfl (sl 4 rfl (sl 5 rfl (sl 6 rfl (sl 7 rfl (sl 8 rfl (sl 10 rfl (sl 16 rfl (sl 17 rfl (sl 42 rfl sn))))))))))) (el 10 rfl (el 111 rfl (el 9 rfl (el 113 rfl (el 512 rfl (el 922 rfl en)))))) ?_
      refine tri_if rfl (fun he => ?_) (fun he => ?_)
      · have hDq : D.getD q (cZ K).dflt ≠ 0 := Int.ne_of_gt (hB.pos q (by omega))
        refine tri_skip ?_
        refine nx (sl 0 rfl (sl 2 rfl (sl 4 rfl (sl 5 rfl (sl 6 rfl (sl 7 rfl (sl 8 rfl (sl 10 rfl (sl 16 rfl (sl 17 rfl sn)))))))))) (el 10 rfl (el 111 rfl (el 9 rfl (el 113 rfl (el 512 rfl (el 922 rfl en)))))) ?_
        refine tri_seq ?_
        refine tri_block ?_
        refine tri_seq ?_
        refine tri_reg mixed hcx ?_ _ _
        refine mv rfl ?_
        refine asg rfl ?_
        refine ⟨by kernel_rfl, ?_⟩
        refine nx (sl 0 rfl (sl 2 rfl (sl 4 rfl (sl 5 rfl (sl 6 rfl (sl 7 rfl (sl 8 rfl (sl 10 rfl (sl 11 rfl (sl 16 rfl (sl 17 rfl sn))))))))))) (el 10 rfl (el 111 rfl (el 9 rfl (el 113 rfl (el 512 rfl (el 922 rfl en)))))) ?_
        refine tri_seq ?_
        refine tri_seq ?_
        refine tri_reg mixed hcx ?_ _ _
        refine mv rfl ?_
        refine mv rfl ?_
        refine clt rfl rfl rfl ?_
        refine ⟨by kernel_rfl, ?_⟩
        refine nx (sl 0 rfl (sl 2 rfl (sl 4 rfl (sl 5 rfl (sl 6 rfl (sl 7 rfl (sl 8 rfl (sl 10 rfl (sl 11 rfl (sl 16 rfl (sl 17 rfl (sl 48 rfl sn)))))))))))) (el 10 rfl (el 111 rfl (el 9 rfl (el 113 rfl (el 512 rfl (el 922 rfl en)))))) ?_
        refine tri_if rfl (fun hf => ?_) (fun hf => ?_)
        · have hLj : (L.getD j (cL (cZ K)).dflt).length = j := hB.lL j (by omega)
          refine tri_reg mixed hcx ?_ _ _
          refine fa rfl fL 1 ?_
          refine ld rfl rfl tyZss rfl ?_
          refine mv rfl ?_
          refine ixo rfl rfl rfl slZss ⟨rfl, by omega⟩ ?_
          refine lo _ rfl rfl tyZs ⟨rfl, rfl, by omega⟩ ?_
          refine asg rfl ?_
          refine ⟨by kernel_rfl, ?_⟩
          refine nx (sl 0 rfl (sl 2 rfl (sl 4 rfl (sl 5 rfl (sl 6 rfl (sl 7 rfl (sl 8 rfl (sl 10 rfl (sl 11 rfl (sl 16 rfl (sl 17 rfl sn))))))))))) (el 10 rfl (el 111 rfl (el 9 rfl (el 113 rfl (el 512 rfl (el 922 rfl en)))))) ?_
          refine tri_seq ?_
          refine tri_reg mixed hcx ?_ _ _
          refine fa rfl fD 0 ?_
          refine ld rfl rfl tyZs rfl ?_
          refine mv rfl ?_
          refine ad (((q + 1 : Nat) : Int)) rfl rfl rfl (by omega) ?_
          refine ixo rfl rfl rfl slZs ⟨rfl, by omega⟩ ?_
          refine lo _ rfl rfl tyZ ⟨rfl, rfl, by omega⟩ ?_
          refine ld rfl rfl tyZ rfl ?_
          refine ca rfl (h := zi_Mul (by omega) (by omega)) (hn := ?_)
          refine mv rfl ?_
          refine mv rfl ?_
          refine ixo rfl rfl rfl slZs ⟨rfl, by omega⟩ ?_
          refine lo _ rfl rfl tyZ ⟨rfl, rfl, by omega⟩ ?_
          refine mv rfl ?_
          refine mv rfl ?_
          refine ix rfl rfl slZs ⟨rfl, by omega⟩ ?_
          refine lf rfl tyZ ?_
          refine ca rfl (h := zi_Mul (by omega) (by omega)) (hn := ?_)
          refine ca rfl (h := zi_Sub (by omega) (by omega)) (hn := ?_)
          refine st rfl rfl rfl tyZ rfl ?_
          refine ⟨by kernel_rfl, ?_⟩
          refine nx (sl 0 rfl (sl 2 rfl (sl 4 rfl (sl 5 rfl (sl 6 rfl (sl 7 rfl (sl 8 rfl (sl 10 rfl (sl 16 rfl (sl 17 rfl sn)))))))))) (el 10 rfl (el 111 rfl (el 9 rfl (el 113 rfl (el 512 rfl (el 922 rfl en)))))) ?_
          refine tri_reg mixed hcx ?_ _ _
          refine ld rfl rfl tyZ rfl ?_
          refine fa rfl fD 0 ?_
          refine ld rfl rfl tyZs rfl ?_
          refine mv rfl ?_
          refine ixo rfl rfl rfl slZs ⟨rfl, by omega⟩ ?_
          refine lo _ rfl rfl tyZ ⟨rfl, rfl, by omega⟩ ?_
          refine ca rfl (h := zi_Floor (by assumption) (by omega) (by omega)) (hn := ?_)
          refine mv rfl ?_
          refine ex rfl rfl ?_
          refine ex rfl rfl ?_
          refine ex rfl rfl ?_
          refine st rfl rfl rfl tyZ rfl ?_
          refine ⟨by kernel_rfl, ?_⟩
          refine pn_blk ?_
          refine nx (sl 0 rfl (sl 2 rfl (sl 4 rfl (sl 5 rfl (sl 6 rfl (sl 7 rfl (sl 8 rfl (sl 10 rfl (sl 16 rfl (sl 17 rfl sn)))))))))) (el 10 rfl (el 111 rfl (el 9 rfl (el 113 rfl (el 512 rfl (el 922 rfl en)))))) ?_
          refine tri_reg mixed hcx ?_ _ _
          refine mv rfl ?_
          refine ad (((q + 1 : Nat) : Int)) rfl rfl rfl (by omega) ?_
          refine asg rfl ?_
          refine ⟨by kernel_rfl, ?_⟩
          exact pn_back (q + 1) (by first | omega | (dsimp only; omega)) (by omega) (sl 0 rfl (sl 2 rfl (sl 4 rfl (sl 5 rfl (sl 6 rfl (sl 7 rfl (sl 8 rfl (sl 10 rfl (sl 16 rfl (sl 17 rfl sn)))))))))) (el 10 rfl (el 111 rfl (el 9 rfl (el 113 rfl (el 512 rfl (ew 922 rfl (box_pack1 (z_to (by show _ = stepU D (pickL L (rowU b D L i j) i j) (rowU b D L i j) q (redU D (pickL L (rowU b D L i j) i j) (rowU b D L i j) (dotU (b.getD i []) (b.getD j []) (b.getD i []).length) q); unfold stepU; rw [show pickL L (rowU b D L i j) i j = L.getD j [] from if_pos (show j < i by omega)]; rfl) (Nat.le_trans (red_bd (k := q + 1) hB hR (by omega) hzS (by omega)) (Nat.le_trans (bd_mono (by omega)) hK1)))) en))))))
        · refine tri_skip ?_
          refine nx (sl 0 rfl (sl 2 rfl (sl 4 rfl (sl 5 rfl (sl 6 rfl (sl 7 rfl (sl 8 rfl (sl 10 rfl (sl 11 rfl (sl 16 rfl (sl 17 rfl sn))))))))))) (el 10 rfl (el 111 rfl (el 9 rfl (el 113 rfl (el 512 rfl (el 922 rfl en)))))) ?_
          refine tri_seq ?_
          refine tri_reg mixed hcx ?_ _ _
          refine fa rfl fD 0 ?_
          refine ld rfl rfl tyZs rfl ?_
          refine mv rfl ?_
          refine ad (((q + 1 : Nat) : Int)) rfl rfl rfl (by omega) ?_
          refine ixo rfl rfl rfl slZs ⟨rfl, by omega⟩ ?_
          refine lo _ rfl rfl tyZ ⟨rfl, rfl, by omega⟩ ?_
          refine ld rfl rfl tyZ rfl ?_
          refine ca rfl (h := zi_Mul (by omega) (by omega)) (hn := ?_)
          refine mv rfl ?_
          refine mv rfl ?_
          refine ixo rfl rfl rfl slZs ⟨rfl, by omega⟩ ?_
          refine lo _ rfl rfl tyZ ⟨rfl, rfl, by omega⟩ ?_
          refine mv rfl ?_
          refine mv rfl ?_
          refine ixo rfl rfl rfl slZs ⟨rfl, by omega⟩ ?_
          refine lo _ rfl rfl tyZ ⟨rfl, rfl, by omega⟩ ?_
          refine ca rfl (h := zi_Mul (by omega) (by omega)) (hn := ?_)
          refine ca rfl (h := zi_Sub (by omega) (by omega)) (hn := ?_)
          refine st rfl rfl rfl tyZ rfl ?_
          refine ⟨by kernel_rfl, ?_⟩
          refine nx (sl 0 rfl (sl 2 rfl (sl 4 rfl (sl 5 rfl (sl 6 rfl (sl 7 rfl (sl 8 rfl (sl 10 rfl (sl 16 rfl (sl 17 rfl sn)))))))))) (el 10 rfl (el 111 rfl (el 9 rfl (el 113 rfl (el 512 rfl (el 922 rfl en)))))) ?_
          refine tri_reg mixed hcx ?_ _ _
          refine ld rfl rfl tyZ rfl ?_
          refine fa rfl fD 0 ?_
          refine ld rfl rfl tyZs rfl ?_
          refine mv rfl ?_
          refine ixo rfl rfl rfl slZs ⟨rfl, by omega⟩ ?_
          refine lo _ rfl rfl tyZ ⟨rfl, rfl, by omega⟩ ?_
          refine ca rfl (h := zi_Floor (by assumption) (by omega) (by omega)) (hn := ?_)
          refine mv rfl ?_
          refine ex rfl rfl ?_
          refine ex rfl rfl ?_
          refine ex rfl rfl ?_
          refine st rfl rfl rfl tyZ rfl ?_
          refine ⟨by kernel_rfl, ?_⟩
          refine pn_blk ?_
          refine nx (sl 0 rfl (sl 2 rfl (sl 4 rfl (sl 5 rfl (sl 6 rfl (sl 7 rfl (sl 8 rfl (sl 10 rfl (sl 16 rfl (sl 17 rfl sn)))))))))) (el 10 rfl (el 111 rfl (el 9 rfl (el 113 rfl (el 512 rfl (el 922 rfl en)))))) ?_
          refine tri_reg mixed hcx ?_ _ _
          refine mv rfl ?_
          refine ad (((q + 1 : Nat) : Int)) rfl rfl rfl (by omega) ?_
          refine asg rfl ?_
          refine ⟨by kernel_rfl, ?_⟩
          exact pn_back (q + 1) (by first | omega | (dsimp only; omega)) (by omega) (sl 0 rfl (sl 2 rfl (sl 4 rfl (sl 5 rfl (sl 6 rfl (sl 7 rfl (sl 8 rfl (sl 10 rfl (sl 16 rfl (sl 17 rfl sn)))))))))) (el 10 rfl (el 111 rfl (el 9 rfl (el 113 rfl (el 512 rfl (ew 922 rfl (box_pack1 (z_to (by show _ = stepU D (pickL L (rowU b D L i j) i j) (rowU b D L i j) q (redU D (pickL L (rowU b D L i j) i j) (rowU b D L i j) (dotU (b.getD i []) (b.getD j []) (b.getD i []).length) q); unfold stepU; rw [show pickL L (rowU b D L i j) i j = (rowU b D L i j) from if_neg (show ¬ j < i by omega)]; rfl) (Nat.le_trans (red_bd (k := q + 1) hB hR (by omega) hzS (by omega)) (Nat.le_trans (bd_mono (by omega)) hK1)))) en))))))
      · refine tri_exit ?_
        repeat (first | refine pn_then ?_ | refine pn_oth (by decide) ?_)
        refine pn_ex ?_
        have hqj : q = j := by omega
        refine nx (sl 0 rfl (sl 2 rfl (sl 4 rfl (sl 5 rfl (sl 6 rfl (sl 7 rfl (sl 8 rfl (sl 16 rfl (sl 17 rfl sn))))))))) (el 10 rfl (el 111 rfl (el 9 rfl (el 113 rfl (el 512 rfl (el 922 rfl en)))))) ?_
        refine tri_reg mixed hcx ?_ _ _
        refine mv rfl ?_
        refine ld rfl rfl tyZ rfl ?_
        refine bs (c := cZ K) (xs := [redU D (pickL L (rowU b D L i j) i j) (rowU b D L i j) (dotU (b.getD i []) (b.getD j []) (b.getD i []).length) j]) slZs rfl ⟨.of (by rw [hqj]; rfl), trivial⟩ ?_
        refine ap 1813 rfl rfl rfl slZs (by simp only [List.length_cons, List.length_nil]; omega) (by decide) ?_
        refine asg rfl ?_
        refine ⟨by kernel_rfl, ?_⟩
        refine pn_blk ?_
        refine nx (sl 0 rfl (sl 2 rfl (sl 4 rfl (sl 5 rfl (sl 6 rfl (sl 7 rfl (sl 16 rfl (sl 17 rfl sn)))))))) (el 10 rfl (el 111 rfl (el 9 rfl (el 113 rfl (el 922 rfl (el 1813 rfl en)))))) ?_
        refine tri_reg mixed hcx ?_ _ _
        refine mv rfl ?_
        refine ad (((j + 1 : Nat) : Int)) rfl rfl rfl (by omega) ?_
        refine asg rfl ?_
        refine ⟨by kernel_rfl, ?_⟩
        refine pn_sub (sl 0 rfl (sl 2 rfl (sl 4 rfl (sl 5 rfl (sl 6 rfl (sl 7 rfl (sl 16 rfl (sl 17 rfl sn)))))))) (el 10 rfl (el 111 rfl (el 9 rfl (el 113 rfl (el 922 rfl (el 1813 rfl en)))))) ?_
        refine pn_ren 6 512 1813 rfl rfl (by rw [hcx]; kernel_rfl) ?_
        exact pn_back (j + 1) (by first | omega | (dsimp only; omega)) ⟨by omega, hR.snoc (red_bd hB hR (by omega) hzS (Nat.le_refl _))⟩ (sl 0 rfl (sl 2 rfl (sl 4 rfl (sl 5 rfl (sl 6 rfl (sl 7 rfl (sl 16 rfl (sl 17 rfl sn)))))))) (el 10 rfl (el 111 rfl (el 9 rfl (el 113 rfl (el 512 rfl en)))))
    · refine tri_exit ?_
      repeat (first | refine pn_then ?_ | refine pn_oth (by decide) ?_)
      refine pn_ex ?_
      have hji : j = i + 1 := by omega
      subst hji
      have hRl := hR.len
      refine nx (sl 0 rfl (sl 2 rfl (sl 4 rfl (sl 5 rfl (sl 6 rfl (sl 16 rfl (sl 17 rfl sn))))))) (el 10 rfl (el 111 rfl (el 9 rfl (el 113 rfl (el 512 rfl en))))) ?_
      refine tri_seq ?_
      refine tri_seq ?_
      rcases Int.lt_or_le 0 ((rowU b D L i (i + 1)).getD i 0) with hpos | hpos
      · have hsp : sg ((rowU b D L i (i + 1)).getD i (cZ K).dflt) = 1 := sg_pos hpos
        have hnx : bld b (i + 1) = some (D ++ [(rowU b D L i (i + 1)).getD i 0], L ++ [(rowU b D L i (i + 1)).take i]) := by show (match bld b i with | none => none | some (D, L) => if (rowU b D L i (i + 1)).getD i 0 ≤ 0 then none else some (D ++ [(rowU b D L i (i + 1)).getD i 0], L ++ [(rowU b D L i (i + 1)).take i])) = _; rw [hb]; simp only; rw [if_neg (Int.not_le.2 hpos)]
        refine tri_reg mixed hcx ?_ _ _
        refine mv rfl ?_
        refine mv rfl ?_
        refine ixo rfl rfl rfl slZs ⟨rfl, by omega⟩ ?_
        refine lo _ rfl rfl tyZ ⟨rfl, rfl, by omega⟩ ?_
        refine ca rfl (h := zi_Sign (by omega)) (hn := ?_)
        refine cle rfl rfl (decide_eq_false (by omega)) ?_
        refine ⟨by kernel_rfl, ?_⟩
        refine nx (sl 0 rfl (sl 2 rfl (sl 4 rfl (sl 5 rfl (sl 6 rfl (sl 16 rfl (sl 17 rfl (sl 92 rfl sn)))))))) (el 10 rfl (el 111 rfl (el 9 rfl (el 113 rfl (el 512 rfl en))))) ?_
        refine tri_false rfl rfl ?_
        refine tri_skip ?_
        refine nx (sl 0 rfl (sl 2 rfl (sl 4 rfl (sl 5 rfl (sl 6 rfl (sl 16 rfl (sl 17 rfl sn))))))) (el 10 rfl (el 111 rfl (el 9 rfl (el 113 rfl (el 512 rfl en))))) ?_
        refine tri_seq ?_
        refine tri_fz 512 rfl ?_
        refine tri_rd 6 512 rfl rfl ?_
        refine tri_reg mixed hcx ?_ _ _
        refine fa rfl fD 0 ?_
        refine ld rfl rfl tyZs rfl ?_
        refine mv rfl ?_
        refine mv rfl ?_
        refine ix rfl rfl slZs ⟨rfl, by omega⟩ ?_
        refine lf rfl tyZ ?_
        refine bs (c := cZ K) (xs := [(rowU b D L i (i + 1)).getD i 0]) slZs rfl ⟨.refl _, trivial⟩ ?_
        refine ap 2117 rfl rfl rfl slZs (by simp only [List.length_cons, List.length_nil]; omega) (by decide) ?_
        refine fa rfl fD 0 ?_
        refine st rfl rfl rfl tyZs rfl ?_
        refine ⟨by kernel_rfl, ?_⟩
        refine nx (sl 0 rfl (sl 2 rfl (sl 4 rfl (sl 5 rfl (sl 6 rfl (sl 16 rfl (sl 17 rfl sn))))))) (el 10 rfl (el 9 rfl (el 113 rfl (el 2117 rfl en)))) ?_
        refine tri_reg mixed hcx ?_ _ _
        refine fa rfl fL 1 ?_
        refine ld rfl rfl tyZss rfl ?_
        refine mv rfl ?_
        refine mv rfl ?_
        refine mv rfl ?_
        refine sh3 rfl slZs rfl rfl ⟨rfl, rfl, by omega⟩ ?_
        refine bs (c := cL (cZ K)) (xs := [(rowU b D L i (i + 1)).take i]) slZss rfl ⟨.refl _, trivial⟩ ?_
        refine ap 2217 rfl rfl rfl slZss (by simp only [List.length_cons, List.length_nil]; omega) (by decide) ?_
        refine fa rfl fL 1 ?_
        refine st rfl rfl rfl tyZss rfl ?_
        refine ⟨by kernel_rfl, ?_⟩
        refine pn_blk ?_
        refine nx (sl 0 rfl (sl 2 rfl (sl 4 rfl (sl 16 rfl (sl 17 rfl sn))))) (el 10 rfl (el 113 rfl (el 2117 rfl (el 2217 rfl en)))) ?_
        refine tri_reg mixed hcx ?_ _ _
        refine ad _ rfl rfl rfl ⟨rfl, by omega, by omega⟩ ?_
        refine mv rfl ?_
        refine ⟨by kernel_rfl, ?_⟩
        refine pn_sub (sl 0 rfl (sl 2 rfl (sl 4 rfl (sl 16 rfl (sl 17 rfl sn))))) (el 10 rfl (el 113 rfl (el 2117 rfl (el 2217 rfl en)))) ?_
        refine pn_renb (bl := [T.o 2117, T.o 2217]) (bl' := [T.o 111, T.o 2217]) 113 111 2117 rfl rfl ⟨.inr ⟨rfl, rfl⟩, .inl ⟨rfl, by show 111 ∉ [2217]; decide⟩, trivial⟩ (by rw [hcx]; kernel_rfl) rfl ?_
        refine pn_renb (bl := [T.o 111, T.o 2217]) (bl' := [T.o 111, T.o 9]) 113 9 2217 rfl rfl ⟨.inl ⟨rfl, by show 9 ∉ [111]; decide⟩, .inr ⟨rfl, rfl⟩, trivial⟩ (by rw [hcx]; kernel_rfl) rfl ?_
        exact pn_back (i + 1, D ++ [(rowU b D L i (i + 1)).getD i 0], L ++ [(rowU b D L i (i + 1)).take i]) (by dsimp only; omega) ⟨by omega, hnx, hB.step hR hpos⟩ (sl 0 rfl (sl 2 rfl (sl 4 rfl (sl 16 rfl (sl 17 rfl sn))))) (el 10 rfl (el 111 rfl (el 9 rfl (el 113 rfl en))))
      · have hsp : sg ((rowU b D L i (i + 1)).getD i (cZ K).dflt) ≤ 0 := sg_le.2 hpos
        refine tri_reg mixed hcx ?_ _ _
        refine mv rfl ?_
        refine mv rfl ?_
        refine ixo rfl rfl rfl slZs ⟨rfl, by omega⟩ ?_
        refine lo _ rfl rfl tyZ ⟨rfl, rfl, by omega⟩ ?_
        refine ca rfl (h := zi_Sign (by omega)) (hn := ?_)
        refine cle rfl rfl (decide_eq_true (by omega)) ?_
        refine ⟨by kernel_rfl, ?_⟩
        refine nx (sl 0 rfl (sl 2 rfl (sl 4 rfl (sl 5 rfl (sl 6 rfl (sl 16 rfl (sl 17 rfl (sl 92 rfl sn)))))))) (el 10 rfl (el 111 rfl (el 9 rfl (el 113 rfl (el 512 rfl en))))) ?_
        refine tri_true rfl rfl ?_
        refine tri_seq ?_
        refine tri_reg mixed hcx ?_ _ _
        refine bu stG rfl ?_
        refine st rfl rfl rfl tyG rfl ?_
        refine asg rfl ?_
        refine ⟨by kernel_rfl, ?_⟩
        refine nx (sl 2 rfl (sl 3 rfl sn)) (el 10 rfl (el 111 rfl (el 9 rfl (el 113 rfl (el 512 rfl en))))) ?_
        refine tri_ret ?_
        repeat (first | refine pn_thenr ?_ | refine pn_blkr ?_)
        exact ret2 hcx rfl (rv_cell (c' := cx) (n := 0) rfl rfl tyG rfl) (rv_tmp rfl) (.refl _) en
  · refine tri_exit ?_
    repeat (first | refine pn_then ?_ | refine pn_oth (by decide) ?_)
    refine pn_ex ?_
    have hin : i = b.length := by omega
    rw [hin, h] at hb; cases hb

theorem g_of_err_t {b : List (List Int)} {k : Nat} {r : Int} (hk : k ≤ 1048576) (hrr : ∀ i, i < b.length → (b.getD i []).length ≤ 1048576) (hbl : b.length ≤ 1048576) (hR : ShR b true r) (hr : r ≠ 0) : Fn Try.prog 77 [T.l (cL (cZi k)) b, T.c (.bool true)] [] [] [] (T.tup [T.st [T.c (.slice none 0 0), T.c (.slice none 0 0)], T.c (.int .i64 r)]) := by
  refine fn_of Try.func77 rfl (by show 2 ≤ 25; decide) fun cx hcx => ?_
  refine tri_sub (sl 0 rfl (sl 1 rfl sn)) en ?_
  refine tri_seq ?_
  refine tri_reg mixed hcx ?_ _ _
  refine nw 10 zeG ?_
  refine asg rfl ?_
  refine ⟨by kernel_rfl, ?_⟩
  refine nx (sl 0 rfl (sl 1 rfl (sl 4 rfl sn))) (el 10 rfl en) ?_
  refine tri_seq ?_
  refine tri_seq ?_
  refine tri_reg mixed hcx ?_ _ _
  refine mv rfl ?_
  refine mv rfl ?_
  refine ca rfl (h := g_shaped_t hk hbl hrr hR) (hn := ?_)
  refine asg rfl ?_
  refine ⟨by kernel_rfl, ?_⟩
  refine nx (sl 0 rfl (sl 4 rfl (sl 6 rfl sn))) (el 10 rfl en) ?_
  refine tri_seq ?_
  refine tri_reg mixed hcx ?_ _ _
  refine mv rfl ?_
  refine cne rfl rfl (decide_eq_true hr) ?_
  refine ⟨by kernel_rfl, ?_⟩
  refine nx (sl 0 rfl (sl 4 rfl (sl 6 rfl (sl 13 rfl sn)))) (el 10 rfl en) ?_
  refine tri_true rfl rfl ?_
  refine tri_seq ?_
  refine tri_reg mixed hcx ?_ _ _
  refine bu stG rfl ?_
  refine mv rfl ?_
  refine st rfl rfl rfl tyG rfl ?_
  refine asg rfl ?_
  refine ⟨by kernel_rfl, ?_⟩
  refine nx (sl 4 rfl (sl 5 rfl sn)) (el 10 rfl en) ?_
  refine tri_ret ?_
  repeat (first | refine pn_thenr ?_ | refine pn_blkr ?_)
  exact ret2 hcx rfl (rv_cell (c' := cx) (n := 0) rfl rfl tyG rfl) (rv_tmp rfl) (.refl _) en

theorem g_of_no_t {b : List (List Int)} {k m S K : Nat} (h0 : 0 < b.length) (hb : b.length ≤ 12) (hm : ∀ i, i < b.length → (b.getD i []).length = m) (hk : k ≤ 1048576) (hm12 : m ≤ 12) (hR : ShR b true 0) (h : bld b b.length = none) (hS : ∀ i j, i < b.length → j ≤ i → zl (dotU (b.getD i []) (b.getD j []) (b.getD i []).length) ≤ S) (hK1 : bd S 12 ≤ K) (hK2 : K ≤ 137438953472) (hK3 : 2 ≤ K) : Fn Try.prog 77 [T.l (cL (cZi k)) b, T.c (.bool true)] [] [] [] (T.tup [T.st [T.c (.slice none 0 0), T.c (.slice none 0 0)], T.c (.int .i64 50)]) := by
  refine fn_of Try.func77 rfl (by show 2 ≤ 25; decide) fun cx hcx => ?_
  refine tri_sub (sl 0 rfl (sl 1 rfl sn)) en ?_
  have hrr : ∀ i, i < b.length → (b.getD i []).length ≤ 1048576 := fun i hi => by rw [hm i hi]; omega
  refine tri_seq ?_
  refine tri_reg mixed hcx ?_ _ _
  refine nw 10 zeG ?_
  refine asg rfl ?_
  refine ⟨by kernel_rfl, ?_⟩
  refine nx (sl 0 rfl (sl 1 rfl (sl 4 rfl sn))) (el 10 rfl en) ?_
  refine tri_seq ?_
  refine tri_seq ?_
  refine tri_reg mixed hcx ?_ _ _
  refine mv rfl ?_
  refine mv rfl ?_
  refine ca rfl (h := g_shaped_t hk (by omega) hrr hR) (hn := ?_)
  refine asg rfl ?_
  refine ⟨by kernel_rfl, ?_⟩
  refine nx (sl 0 rfl (sl 4 rfl (sl 6 rfl sn))) (el 10 rfl en) ?_
  refine tri_seq ?_
  refine tri_reg mixed hcx ?_ _ _
  refine mv rfl ?_
  refine cne rfl rfl (decide_eq_false (by omega)) ?_
  refine ⟨by kernel_rfl, ?_⟩
  refine nx (sl 0 rfl (sl 4 rfl (sl 6 rfl (sl 13 rfl sn)))) (el 10 rfl en) ?_
  refine tri_false rfl rfl ?_
  refine tri_skip ?_
  refine nx (sl 0 rfl (sl 4 rfl sn)) (el 10 rfl en) ?_
  refine tri_seq ?_
  refine tri_reg mixed hcx ?_ _ _
  refine mv rfl ?_
  refine ca rfl (h := g_built_no h hb hm (by omega) hk hS hK1 hK2 hK3) (hn := ?_)
  refine mv rfl ?_
  refine ex rfl rfl ?_
  refine ex rfl rfl ?_
  refine nw 415 zeG ?_
  refine st rfl rfl rfl tyG rfl ?_
  refine asg rfl ?_
  refine ⟨by kernel_rfl, ?_⟩
  refine nx (sl 4 rfl (sl 7 rfl (sl 8 rfl sn))) (el 10 rfl (el 415 rfl en)) ?_
  refine tri_seq ?_
  refine tri_seq ?_
  refine tri_reg mixed hcx ?_ _ _
  refine mv rfl ?_
  refine nt rfl _ rfl ?_
  refine ⟨by kernel_rfl, ?_⟩
  refine nx (sl 4 rfl (sl 7 rfl (sl 22 rfl sn))) (el 10 rfl (el 415 rfl en)) ?_
  refine tri_true rfl rfl ?_
  refine tri_seq ?_
  refine tri_reg mixed hcx ?_ _ _
  refine bu stG rfl ?_
  refine st rfl rfl rfl tyG rfl ?_
  refine asg rfl ?_
  refine ⟨by kernel_rfl, ?_⟩
  refine nx (sl 4 rfl (sl 5 rfl sn)) (el 10 rfl (el 415 rfl en)) ?_
  refine tri_ret ?_
  repeat (first | refine pn_thenr ?_ | refine pn_blkr ?_)
  exact ret2 hcx rfl (rv_cell (c' := cx) (n := 0) rfl rfl tyG rfl) (rv_tmp rfl) (.refl _) en

theorem g_of_ok_t {b : List (List Int)} {D0 : List Int} {L0 : List (List Int)} {k m S K : Nat} (h0 : 0 < b.length) (hb : b.length ≤ 12) (hm : ∀ i, i < b.length → (b.getD i []).length = m) (hk : k ≤ 1048576) (hm12 : m ≤ 12) (hR : ShR b true 0) (h : bld b b.length = some (D0, L0)) (hS : ∀ i j, i < b.length → j ≤ i → zl (dotU (b.getD i []) (b.getD j []) (b.getD i []).length) ≤ S) (hK1 : bd S 12 ≤ K) (hK2 : K ≤ 137438953472) (hK3 : 2 ≤ K) : Fn Try.prog 77 [T.l (cL (cZi k)) b, T.c (.bool true)] [] [] [] (T.tup [T.st [T.l (cZ K) D0, T.l (cL (cZ K)) L0], T.c (.int .i64 0)]) := by
  refine fn_of Try.func77 rfl (by show 2 ≤ 25; decide) fun cx hcx => ?_
  refine tri_sub (sl 0 rfl (sl 1 rfl sn)) en ?_
  have hrr : ∀ i, i < b.length → (b.getD i []).length ≤ 1048576 := fun i hi => by rw [hm i hi]; omega
  refine tri_seq ?_
  refine tri_reg mixed hcx ?_ _ _
  refine nw 10 zeG ?_
  refine asg rfl ?_
  refine ⟨by kernel_rfl, ?_⟩
  refine nx (sl 0 rfl (sl 1 rfl (sl 4 rfl sn))) (el 10 rfl en) ?_
  refine tri_seq ?_
  refine tri_seq ?_
  refine tri_reg mixed hcx ?_ _ _
  refine mv rfl ?_
  refine mv rfl ?_
  refine ca rfl (h := g_shaped_t hk (by omega) hrr hR) (hn := ?_)
  refine asg rfl ?_
  refine ⟨by kernel_rfl, ?_⟩
  refine nx (sl 0 rfl (sl 4 rfl (sl 6 rfl sn))) (el 10 rfl en) ?_
  refine tri_seq ?_
  refine tri_reg mixed hcx ?_ _ _
  refine mv rfl ?_
  refine cne rfl rfl (decide_eq_false (by omega)) ?_
  refine ⟨by kernel_rfl, ?_⟩
  refine nx (sl 0 rfl (sl 4 rfl (sl 6 rfl (sl 13 rfl sn)))) (el 10 rfl en) ?_
  refine tri_false rfl rfl ?_
  refine tri_skip ?_
  refine nx (sl 0 rfl (sl 4 rfl sn)) (el 10 rfl en) ?_
  refine tri_seq ?_
  refine tri_reg mixed hcx ?_ _ _
  refine mv rfl ?_
  refine ca rfl (h := g_built h hb hm (by omega) hk hS hK1 hK2 hK3) (hn := ?_)
  refine mv rfl ?_
  refine ex rfl rfl ?_
  refine ex rfl rfl ?_
  refine nw 415 zeG ?_
  refine st rfl rfl rfl tyG rfl ?_
  refine asg rfl ?_
  refine ⟨by kernel_rfl, ?_⟩
  refine nx (sl 4 rfl (sl 7 rfl (sl 8 rfl sn))) (el 10 rfl (el 415 rfl en)) ?_
  refine tri_seq ?_
  refine tri_seq ?_
  refine tri_reg mixed hcx ?_ _ _
  refine mv rfl ?_
  refine nt rfl _ rfl ?_
  refine ⟨by kernel_rfl, ?_⟩
  refine nx (sl 4 rfl (sl 7 rfl (sl 22 rfl sn))) (el 10 rfl (el 415 rfl en)) ?_
  refine tri_false rfl rfl ?_
  refine tri_skip ?_
  refine nx (sl 4 rfl (sl 7 rfl sn)) (el 10 rfl (el 415 rfl en)) ?_
  refine tri_seq ?_
  refine tri_reg mixed hcx ?_ _ _
  refine ld rfl rfl tyG rfl ?_
  refine st rfl rfl rfl tyG rfl ?_
  refine asg rfl ?_
  refine ⟨by kernel_rfl, ?_⟩
  refine nx (sl 4 rfl (sl 5 rfl sn)) (el 10 rfl (el 415 rfl en)) ?_
  refine tri_ret ?_
  repeat (first | refine pn_thenr ?_ | refine pn_blkr ?_)
  exact ret2 hcx rfl (rv_cell (c' := cx) (n := 0) rfl rfl tyG rfl) (rv_tmp rfl) (.refl _) en

theorem g_of_ok_f {b : List (List Int)} {D0 : List Int} {L0 : List (List Int)} {k m S K : Nat} (h0 : 0 < b.length) (hb : b.length ≤ 12) (hm : ∀ i, i < b.length → (b.getD i []).length = m) (hk : k ≤ 1048576) (hm12 : m ≤ 12) (hR : ShR b false 0) (h : bld b b.length = some (D0, L0)) (hS : ∀ i j, i < b.length → j ≤ i → zl (dotU (b.getD i []) (b.getD j []) (b.getD i []).length) ≤ S) (hK1 : bd S 12 ≤ K) (hK2 : K ≤ 137438953472) (hK3 : 2 ≤ K) : Fn Try.prog 77 [T.l (cL (cZi k)) b, T.c (.bool false)] [] [] [] (T.tup [T.st [T.l (cZ K) D0, T.l (cL (cZ K)) L0], T.c (.int .i64 0)]) := by
  refine fn_of Try.func77 rfl (by show 2 ≤ 25; decide) fun cx hcx => ?_
  refine tri_sub (sl 0 rfl (sl 1 rfl sn)) en ?_
  have hrr : ∀ i, i < b.length → (b.getD i []).length ≤ 1048576 := fun i hi => by rw [hm i hi]; omega
  refine tri_seq ?_
  refine tri_reg mixed hcx ?_ _ _
  refine nw 10 zeG ?_
  refine asg rfl ?_
  refine ⟨by kernel_rfl, ?_⟩
  refine nx (sl 0 rfl (sl 1 rfl (sl 4 rfl sn))) (el 10 rfl en) ?_
  refine tri_seq ?_
  refine tri_seq ?_
  refine tri_reg mixed hcx ?_ _ _
  refine mv rfl ?_
  refine mv rfl ?_
  refine ca rfl (h := g_shaped_f hk (by omega) hrr hR) (hn := ?_)
  refine asg rfl ?_
  refine ⟨by kernel_rfl, ?_⟩
  refine nx (sl 0 rfl (sl 4 rfl (sl 6 rfl sn))) (el 10 rfl en) ?_
  refine tri_seq ?_
  refine tri_reg mixed hcx ?_ _ _
  refine mv rfl ?_
  refine cne rfl rfl (decide_eq_false (by omega)) ?_
  refine ⟨by kernel_rfl, ?_⟩
  refine nx (sl 0 rfl (sl 4 rfl (sl 6 rfl (sl 13 rfl sn)))) (el 10 rfl en) ?_
  refine tri_false rfl rfl ?_
  refine tri_skip ?_
  refine nx (sl 0 rfl (sl 4 rfl sn)) (el 10 rfl en) ?_
  refine tri_seq ?_
  refine tri_reg mixed hcx ?_ _ _
  refine mv rfl ?_
  refine ca rfl (h := g_built h hb hm (by omega) hk hS hK1 hK2 hK3) (hn := ?_)
  refine mv rfl ?_
  refine ex rfl rfl ?_
  refine ex rfl rfl ?_
  refine nw 415 zeG ?_
  refine st rfl rfl rfl tyG rfl ?_
  refine asg rfl ?_
  refine ⟨by kernel_rfl, ?_⟩
  refine nx (sl 4 rfl (sl 7 rfl (sl 8 rfl sn))) (el 10 rfl (el 415 rfl en)) ?_
  refine tri_seq ?_
  refine tri_seq ?_
  refine tri_reg mixed hcx ?_ _ _
  refine mv rfl ?_
  refine nt rfl _ rfl ?_
  refine ⟨by kernel_rfl, ?_⟩
  refine nx (sl 4 rfl (sl 7 rfl (sl 22 rfl sn))) (el 10 rfl (el 415 rfl en)) ?_
  refine tri_false rfl rfl ?_
  refine tri_skip ?_
  refine nx (sl 4 rfl (sl 7 rfl sn)) (el 10 rfl (el 415 rfl en)) ?_
  refine tri_seq ?_
  refine tri_reg mixed hcx ?_ _ _
  refine ld rfl rfl tyG rfl ?_
  refine st rfl rfl rfl tyG rfl ?_
  refine asg rfl ?_
  refine ⟨by kernel_rfl, ?_⟩
  refine nx (sl 4 rfl (sl 5 rfl sn)) (el 10 rfl (el 415 rfl en)) ?_
  refine tri_ret ?_
  repeat (first | refine pn_thenr ?_ | refine pn_blkr ?_)
  exact ret2 hcx rfl (rv_cell (c' := cx) (n := 0) rfl rfl tyG rfl) (rv_tmp rfl) (.refl _) en
end Go.Proofs.Ytmfgnbchehnpjaa.V
/- The document: rows made orthogonal. -/
set_option linter.unusedVariables false
set_option linter.unusedSimpArgs false
set_option maxRecDepth 100000
namespace Go.Proofs.Ytmfgnbchehnpjaa.V
open Go.RowKit Mt Nml
theorem box_open {et : TypeId} {l : List T} : (Ent.box et [T.st l]).le (Ent.box et l) := fun β u w v F ⟨b, cs, h1, h2, h3, v', rest, _, ⟨cs', e1, hc⟩, e2, e3⟩ => ⟨b, cs, h1, h2, h3, by
  subst e1
  rw [e3, List.append_nil] at e2
  simp only [Value.cells] at e2
  rw [e2]; exact hc⟩
/-- The coefficients and squared lengths of rows, as fractions. -/
def mR (b : List (List Int)) (i j : Nat) : Rat := Mr (gR b) j i j / Mr (gR b) j j j
def sR (b : List (List Int)) (i : Nat) : Rat := Mr (gR b) i i i
theorem rng_at {α : Type} {f : Nat → α} {d : α} {n k : Nat} (h : k < n) : ((List.range n).map f).getD k d = f k := by
  rw [List.getD_eq_getElem?_getD, List.getElem?_map, List.getElem?_range h]; rfl
end Go.Proofs.Ytmfgnbchehnpjaa.V
/- The data of rows: how large, and that the squared length of a sum of rows is what the data say. -/
set_option linter.unusedVariables false
namespace Go.Proofs.Ytmfgnbchehnpjaa.V
open Mt Nml
theorem RI.row {b : List (List Int)} {D : List Int} {L : List (List Int)} {S i : Nat} (hB : BI S i D L) (hS : ∀ j, j ≤ i → zl (gU b i j) ≤ S) : ∀ j, j ≤ i + 1 → RI S j (rowU b D L i j)
  | 0, _ => RI.zero S
  | j + 1, hj => by
    have h := RI.row hB hS j (by omega)
    unfold rowU
    exact h.snoc (red_bd hB h (by omega) (hS j (by omega)) (Nat.le_refl _))
theorem bld_BI {b : List (List Int)} {S : Nat} (hS : ∀ i j, i < b.length → j ≤ i → zl (gU b i j) ≤ S) : ∀ {i : Nat} {D : List Int} {L : List (List Int)}, i ≤ b.length → bld b i = some (D, L) → BI S i D L
  | 0, D, L, _, h => by cases h; exact BI.zero S
  | i + 1, D, L, hi, h => by
    obtain ⟨D', L', h1, h2, h3⟩ := bld_prev h
    cases h3
    have hB := bld_BI hS (by omega) h1
    exact hB.step (RI.row hB (fun j hj => hS i j (by omega) hj) (i + 1) (Nat.le_refl _)) h2
theorem Ok.mono {b : List (List Int)} {m n : Nat} (h : Ok b n) (hm : m ≤ n) : Ok b m := fun k hk => h k (by omega)
/-- Sums of fractions. -/
def sumN (f : Nat → Rat) : Nat → Rat
  | 0 => 0
  | n + 1 => sumN f n + f n
theorem sum_congr {f g : Nat → Rat} : ∀ {n : Nat}, (∀ i, i < n → f i = g i) → sumN f n = sumN g n
  | 0, _ => rfl
  | n + 1, h => by show sumN f n + f n = sumN g n + g n; rw [sum_congr fun i hi => h i (by omega), h n (by omega)]
theorem sum_add (f g : Nat → Rat) : ∀ n, sumN (fun i => f i + g i) n = sumN f n + sumN g n
  | 0 => by show (0 : Rat) = 0 + 0; grind
  | n + 1 => by show sumN _ n + (f n + g n) = sumN f n + f n + (sumN g n + g n); rw [sum_add f g n]; grind
theorem sum_mul (c : Rat) (f : Nat → Rat) : ∀ n, sumN (fun i => c * f i) n = c * sumN f n
  | 0 => by show (0 : Rat) = c * 0; grind
  | n + 1 => by show sumN _ n + c * f n = c * (sumN f n + f n); rw [sum_mul c f n]; grind
theorem sum_zero {f : Nat → Rat} {n : Nat} (h : ∀ i, i < n → f i = 0) : sumN f n = 0 := by
  rw [sum_congr (g := fun _ => 0 * 0) fun i hi => by rw [h i hi]; grind]
  rw [sum_mul]; grind
theorem sum_swap (f : Nat → Nat → Rat) (m : Nat) : ∀ n, sumN (fun i => sumN (f i) m) n = sumN (fun j => sumN (fun i => f i j) n) m
  | 0 => by show (0 : Rat) = sumN (fun _ => 0) m; exact (sum_zero fun _ _ => rfl).symm
  | n + 1 => by
    show sumN _ n + sumN (f n) m = sumN (fun j => sumN (fun i => f i j) n + f n j) m
    rw [sum_swap f m n, sum_add]
/-- What elimination has done away with. -/
theorem mr_zero {b : List (List Int)} {n : Nat} (h : Ok b n) : ∀ k, k ≤ n → ∀ j, j < k → ∀ c, Mr (gR b) k j c = 0
  | 0, _, j, hj, c => absurd hj (Nat.not_lt_zero _)
  | k + 1, hk, j, hj, c => by
    show Mr (gR b) k j c + -(Mr (gR b) k j k / Mr (gR b) k k k) * Mr (gR b) k k c = 0
    have hm := ok_ne h (show k < n by omega)
    rcases Nat.lt_or_eq_of_le (Nat.le_of_lt_succ hj) with h1 | h1
    · rw [mr_zero h k (by omega) j h1 c, mr_zero h k (by omega) j h1 k]
      rw [Rat.div_def]; grind
    · subst h1
      generalize Mr (gR b) j j j = m at hm
      generalize Mr (gR b) j j c = x
      grind
theorem sum_split (f : Nat → Rat) (m : Nat) : ∀ d, sumN f (m + d) = sumN f m + sumN (fun i => f (m + i)) d
  | 0 => by show _ = _ + (0 : Rat); rw [Nat.add_zero]; grind
  | d + 1 => by show sumN f (m + d) + f (m + d) = _ + (sumN _ d + _); rw [sum_split f m d]; grind
/-- The data's numbers as fractions. -/
theorem DI.star {b : List (List Int)} {n : Nat} {D : List Int} {L : List (List Int)} (h : DI b n D L) {i : Nat} (hi : i < n) : ((D.getD (i + 1) 0 : Int) : Rat) / ((D.getD i 0 : Int) : Rat) = sR b i := by
  have hp := rat_pos_ne (pb_pos h.ok i (by omega))
  rw [h.d (i + 1) (by omega), h.d i (by omega), pb_succ]
  show pb b i * sR b i / pb b i = _
  generalize sR b i = s
  generalize pb b i = p at hp
  grind
theorem DI.mu {b : List (List Int)} {n : Nat} {D : List Int} {L : List (List Int)} (h : DI b n D L) {i j : Nat} (hi : i < n) (hj : j < i) : (((L.getD i []).getD j 0 : Int) : Rat) / ((D.getD (j + 1) 0 : Int) : Rat) = mR b i j := by
  have hp := rat_pos_ne (pb_pos h.ok j (by omega))
  have hm := ok_ne h.ok (show j < n by omega)
  rw [h.d (j + 1) (by omega), h.l i j hi hj, pb_succ]
  unfold mR
  generalize Mr (gR b) j j j = m at hm
  generalize Mr (gR b) j i j = x
  generalize pb b j = p at hp
  grind
/-! ### sums of rows -/
theorem DI.good {b : List (List Int)} {n : Nat} {D : List Int} {L : List (List Int)} (h : DI b n D L) (hn : 0 < n) : GoodP D L := by
  have hpos : ∀ k, k ≤ n → 0 < D.getD k 0 := fun k hk => by
    have := pb_pos h.ok k hk
    rw [← h.d k hk] at this
    exact Rat.intCast_pos.1 this
  refine ⟨by rw [h.lL]; exact hn, by rw [h.lD, h.lL], ?_, fun i hi => ?_⟩
  · have := h.d 0 (Nat.zero_le _)
    exact Rat.intCast_inj.1 (this.trans rfl)
  · rw [h.lL] at hi
    exact ⟨h.lr i hi, hpos (i + 1) (by omega)⟩
end Go.Proofs.Ytmfgnbchehnpjaa.V
/- The nearest point: the normal equations, and how far it is. -/
set_option linter.unusedVariables false
set_option maxRecDepth 100000
namespace Go.Proofs.Ytmfgnbchehnpjaa.V
open Go.RowKit Mt Nml
/-- The coefficient of a row along a star, whichever. -/
def Wq (b : List (List Int)) (i l : Nat) : Rat := Mr (gR b) l i l / Mr (gR b) l l l
theorem wq_eq {b : List (List Int)} {n i : Nat} (h : Ok b n) (hi : i < n) : Wq b i i = 1 := by
  have hm := ok_ne h hi
  unfold Wq
  generalize Mr (gR b) i i i = m at hm
  grind
theorem wq_gt {b : List (List Int)} {n i l : Nat} (h : Ok b n) (hl : l ≤ n) (hi : i < l) : Wq b i l = 0 := by
  unfold Wq
  rw [mr_zero h l hl i hi l, Rat.div_def, Rat.zero_mul]
theorem gram_step {b : List (List Int)} {n : Nat} (h : Ok b n) (i m : Nat) : ∀ k, k ≤ n → gR b i m = sumN (fun l => Wq b i l * (Wq b m l * sR b l)) k + Mr (gR b) k i m
  | 0, _ => by show gR b i m = (0 : Rat) + gR b i m; grind
  | k + 1, hk => by
    have hm := ok_ne h (show k < n by omega)
    rw [gram_step h i m k (by omega)]
    show sumN _ k + Mr (gR b) k i m = sumN _ k + Wq b i k * (Wq b m k * sR b k) + (Mr (gR b) k i m + -(Mr (gR b) k i k / Mr (gR b) k k k) * Mr (gR b) k k m)
    rw [mr_symm (gR_symm b) k k m]
    unfold Wq sR
    generalize Mr (gR b) k k k = q at hm
    generalize Mr (gR b) k i k = x
    generalize Mr (gR b) k m k = y
    grind
theorem gram_W {b : List (List Int)} {n : Nat} (h : Ok b n) {i : Nat} (hi : i < n) (m : Nat) : gR b i m = sumN (fun l => Wq b i l * (Wq b m l * sR b l)) n := by
  rw [gram_step h i m n (Nat.le_refl _), mr_zero h n (Nat.le_refl _) i hi m]
  grind
theorem sum_tail {f : Nat → Rat} {m : Nat} : ∀ {d : Nat}, (∀ i, m ≤ i → i < m + d → f i = 0) → sumN f (m + d) = sumN f m
  | 0, _ => rfl
  | d + 1, h => by
    show sumN f (m + d) + f (m + d) = _
    rw [sum_tail fun i h1 h2 => h i h1 (by omega), h (m + d) (by omega) (by omega)]
    grind
theorem sum_head {f : Nat → Rat} {m : Nat} (h : ∀ i, i < m → f i = 0) (d : Nat) : sumN f (m + d) = sumN (fun i => f (m + i)) d := by
  rw [sum_split, sum_zero h]; grind
theorem yP_sum (D : List Int) (L : List (List Int)) (a : Nat → Rat) (ys : List Rat) (i : Nat) : ∀ j, yP D L a ys i j = a i - sumN (fun l => muq D L i l * stq D l * ys.getD l 0) j
  | 0 => by show a i = a i - (0 : Rat); grind
  | j + 1 => by show yP D L a ys i j - _ = a i - (sumN _ j + _); rw [yP_sum D L a ys i j]; grind
theorem cP_sum (D : List Int) (L : List (List Int)) (y cs : List Rat) (i : Nat) : ∀ m, cP D L y cs i m = y.getD i 0 - sumN (fun j => muq D L (i + 1 + j) i * cs.getD j 0) m
  | 0 => by show y.getD i 0 = y.getD i 0 - (0 : Rat); grind
  | m + 1 => by show cP D L y cs i m - _ = y.getD i 0 - (sumN _ m + _); rw [cP_sum D L y cs i m]; grind
/-- What is known of the coefficients: Y along the stars, C along the rows. -/
structure Near (b : List (List Int)) (n : Nat) (a Y C : Nat → Rat) : Prop where
  ok : Ok b n
  y : ∀ i, i < n → a i = sumN (fun l => Wq b i l * sR b l * Y l) n
  c : ∀ l, l < n → Y l = sumN (fun i => C i * Wq b i l) n
theorem near_of {b : List (List Int)} {n : Nat} {D : List Int} {L : List (List Int)} (h : DI b n D L) (a : Nat → Rat) : Near b n a (fun i => (yL D L a n).getD i 0) (fun i => (cB D L (yL D L a n) n n).getD i 0) := by
  have hs : ∀ i, i < n → stq D i = sR b i := fun i hi => h.star hi
  have hm : ∀ i j, i < n → j < i → muq D L i j = mR b i j := fun i j hi hj => h.mu hi hj
  have hsn : ∀ i, i < n → sR b i ≠ 0 := fun i hi => ok_ne h.ok hi
  refine ⟨h.ok, fun i hi => ?_, fun l hl => ?_⟩
  · have e1 := yL_at D L a (j := i) (i := n) hi
    have e2 := yP_sum D L a (yL D L a i) i i
    rw [hs i hi] at e1
    have hne := hsn i hi
    have e3 : sumN (fun l => muq D L i l * stq D l * (yL D L a i).getD l 0) i = sumN (fun l => Wq b i l * sR b l * (yL D L a n).getD l 0) i := sum_congr fun l hl => by
      rw [hm i l hi hl, hs l (by omega), yL_at D L a (j := l) (i := i) hl, yL_at D L a (j := l) (i := n) (by omega)]; rfl
    rw [show n = (i + 1) + (n - (i + 1)) by omega, sum_tail (m := i + 1) (d := n - (i + 1)) (fun l h1 h2 => by rw [wq_gt h.ok (by omega) (by omega)]; grind)]
    rw [show i + 1 + (n - (i + 1)) = n by omega]
    show a i = sumN _ i + Wq b i i * sR b i * (yL D L a n).getD i 0
    rw [wq_eq h.ok hi, ← e3, e1, e2]
    generalize sumN (fun l => muq D L i l * stq D l * (yL D L a i).getD l 0) i = z
    generalize sR b i = s at hne
    grind
  · have e1 := cB_at D L (yL D L a n) n (k := n) (m := l) hl
    have e2 := cP_sum D L (yL D L a n) (cB D L (yL D L a n) n (n - 1 - l)) (n - (n - l)) (n - 1 - l)
    rw [show n - (n - l) = l by omega] at e1 e2
    have e3 : sumN (fun j => muq D L (l + 1 + j) l * (cB D L (yL D L a n) n (n - 1 - l)).getD j 0) (n - 1 - l) = sumN (fun j => (cB D L (yL D L a n) n n).getD (l + 1 + j) 0 * Wq b (l + 1 + j) l) (n - 1 - l) := sum_congr fun j hj => by
      rw [hm (l + 1 + j) l (by omega) (by omega), cB_at D L (yL D L a n) n (k := n - 1 - l) (m := j) hj, cB_at D L (yL D L a n) n (k := n) (m := l + 1 + j) (by omega), show n - 1 - l - 1 - j = n - 1 - (l + 1 + j) by omega, show n - 1 - l - j = n - (l + 1 + j) by omega]
      show mR b _ _ * _ = _ * mR b _ _
      grind
    rw [show n = l + (1 + (n - 1 - l)) by omega, sum_head (fun i hi => by rw [wq_gt h.ok (by omega) hi]; grind), sum_split]
    rw [show l + (1 + (n - 1 - l)) = n by omega]
    show _ = (0 : Rat) + (cB D L (yL D L a n) n n).getD (l + 0) 0 * Wq b (l + 0) l + _
    rw [Nat.add_zero, wq_eq h.ok hl]
    rw [sum_congr (g := fun j => (cB D L (yL D L a n) n n).getD (l + 1 + j) 0 * Wq b (l + 1 + j) l) (fun j _ => by rw [Nat.add_assoc]), ← e3]
    grind
/-- The normal equations. -/
theorem Near.normal {b : List (List Int)} {n : Nat} {a Y C : Nat → Rat} (h : Near b n a Y C) {m : Nat} (hm : m < n) : sumN (fun i => C i * gR b i m) n = a m := by
  rw [sum_congr (g := fun i => sumN (fun l => C i * (Wq b i l * (Wq b m l * sR b l))) n) (fun i hi => by rw [gram_W h.ok hi m, sum_mul]), sum_swap, h.y m hm]
  refine sum_congr fun l hl => ?_
  rw [sum_congr (g := fun i => (Wq b m l * sR b l) * (C i * Wq b i l)) (fun i _ => by grind), sum_mul, ← h.c l hl]
/-- How much of the point lies in the span. -/
theorem Near.part {b : List (List Int)} {n : Nat} {a Y C : Nat → Rat} (h : Near b n a Y C) : sumN (fun i => C i * a i) n = sumN (fun l => Y l * Y l * sR b l) n := by
  rw [sum_congr (g := fun i => sumN (fun l => C i * (Wq b i l * sR b l * Y l)) n) (fun i hi => by rw [h.y i hi, sum_mul]), sum_swap]
  refine sum_congr fun l hl => ?_
  rw [sum_congr (g := fun i => (sR b l * Y l) * (C i * Wq b i l)) (fun i _ => by grind), sum_mul, ← h.c l hl]
  grind
/-! ### columns -/
abbrev tq (ts : List (Int × Int)) (k : Nat) : Rat := ((ts.getD k (0, 0)).1 : Rat) / ((ts.getD k (0, 0)).2 : Rat)
theorem alq_sum (ts : List (Int × Int)) (r : List Int) : ∀ n, alq ts r n = sumN (fun k => tq ts k * ((r.getD k 0 : Int) : Rat)) n
  | 0 => rfl
  | n + 1 => by show alq ts r n + _ = sumN _ n + _; rw [alq_sum ts r n]
theorem lq_sum (b : List (List Int)) (c : List Rat) (d : Rat) (k : Nat) : ∀ i, lq b c d k i = d - sumN (fun m => c.getD m 0 * (((b.getD m []).getD k 0 : Int) : Rat)) i
  | 0 => by show d = d - (0 : Rat); grind
  | i + 1 => by show lq b c d k i - _ = d - (sumN _ i + _); rw [lq_sum b c d k i]; grind
theorem dotU_sum (xs ys : List Int) : ∀ n, ((dotU xs ys n : Int) : Rat) = sumN (fun k => ((xs.getD k 0 : Int) : Rat) * ((ys.getD k 0 : Int) : Rat)) n
  | 0 => rfl
  | n + 1 => by
    show ((dotU xs ys n + xs.getD n 0 * ys.getD n 0 : Int) : Rat) = _ + _
    rw [Rat.intCast_add, Rat.intCast_mul, dotU_sum xs ys n]
/-- The product of what is left and a row, term by term. -/
def nq (b : List (List Int)) (c : List Rat) (ts : List (Int × Int)) (n i : Nat) : Nat → Rat
  | 0 => 0
  | k + 1 => nq b c ts n i k + lq b c (tq ts k) k n * (((b.getD i []).getD k 0 : Int) : Rat)
theorem nq_sum (b : List (List Int)) (c : List Rat) (ts : List (Int × Int)) (n i : Nat) : ∀ k, nq b c ts n i k = sumN (fun k => lq b c (tq ts k) k n * (((b.getD i []).getD k 0 : Int) : Rat)) k
  | 0 => rfl
  | k + 1 => by show nq b c ts n i k + _ = sumN _ k + _; rw [nq_sum b c ts n i k]
theorem nq_zero {b : List (List Int)} {ts : List (Int × Int)} {n m : Nat} {Y : Nat → Rat} {c : List Rat} (hm : ∀ i, i < n → (b.getD i []).length = m) (h : Near b n (fun i => alq ts (b.getD i []) m) Y (fun i => c.getD i 0)) {i : Nat} (hi : i < n) : nq b c ts n i m = 0 := by
  have e := h.normal hi
  rw [nq_sum, sum_congr (g := fun k => tq ts k * (((b.getD i []).getD k 0 : Int) : Rat) + (-1) * sumN (fun q => c.getD q 0 * ((((b.getD q []).getD k 0 : Int) : Rat) * (((b.getD i []).getD k 0 : Int) : Rat))) n) (fun k _ => by
    rw [lq_sum, sum_congr (f := fun q => c.getD q 0 * ((((b.getD q []).getD k 0 : Int) : Rat) * (((b.getD i []).getD k 0 : Int) : Rat))) (g := fun q => (((b.getD i []).getD k 0 : Int) : Rat) * (c.getD q 0 * (((b.getD q []).getD k 0 : Int) : Rat))) (fun q _ => by grind), sum_mul]
    grind), sum_add, sum_mul, ← alq_sum, sum_swap]
  rw [sum_congr (g := fun q => c.getD q 0 * gR b q i) (n := n) (fun q hq => by
    rw [sum_mul]
    show _ = _ * ((gU b q i : Int) : Rat)
    unfold gU
    rw [hm q hq, dotU_sum]), e]
  grind
end Go.Proofs.Ytmfgnbchehnpjaa.V
/- The nearest point: one size for all that is reckoned. -/
set_option linter.unusedVariables false
set_option maxRecDepth 100000
namespace Go.Proofs.Ytmfgnbchehnpjaa.V
open Go.RowKit Mt Nml
/-- The product of all of a list. -/
def dpd : List Int → Int
  | [] => 1
  | q :: l => q * dpd l
theorem dpd_pos : ∀ {l : List Int}, (∀ i, i < l.length → 0 < l.getD i 0) → 0 < dpd l
  | [], _ => by decide
  | q :: l, h => Int.mul_pos (h 0 (by simp)) (dpd_pos (l := l) fun i hi => h (i + 1) (by simp; omega))
theorem dpd_dvd : ∀ {l : List Int} {i : Nat}, i < l.length → l.getD i 0 ∣ dpd l
  | q :: l, 0, _ => ⟨dpd l, rfl⟩
  | q :: l, i + 1, h => by
    have h' : i < l.length := by simp at h; omega
    obtain ⟨c, hc⟩ := dpd_dvd (l := l) h'
    refine ⟨q * c, ?_⟩
    show q * dpd l = l.getD i 0 * (q * c)
    rw [hc]
    ac_rfl
theorem dpd_zl {K : Nat} : ∀ {l : List Int}, (∀ i, i < l.length → zl (l.getD i 0) ≤ K) → zl (dpd l) ≤ l.length * K + 1
  | [], _ => Nat.le_trans zl_one (by omega)
  | q :: l, h => by
    have h1 := dpd_zl (l := l) fun i hi => h (i + 1) (by simp; omega)
    have h2 := zl_mul (h 0 (by simp)) h1
    refine Nat.le_trans h2 ?_
    rw [List.length_cons, Nat.succ_mul]
    omega
theorem dpr_zl {K : Nat} : ∀ {l : List (Int × Int)}, (∀ i, i < l.length → zl (l.getD i (0, 0)).2 ≤ K) → zl (dpr l) ≤ l.length * K + 1
  | [], _ => Nat.le_trans zl_one (by omega)
  | q :: l, h => by
    have h1 := dpr_zl (l := l) fun i hi => h (i + 1) (by simp; omega)
    have h2 := zl_mul (h 0 (by simp)) h1
    refine Nat.le_trans h2 ?_
    rw [List.length_cons, Nat.succ_mul]
    omega
theorem pow_zl (d : Int) : ∀ k, zl (d ^ k) ≤ k * zl d + 1
  | 0 => by rw [Int.pow_zero]; exact Nat.le_trans zl_one (by omega)
  | k + 1 => by
    rw [Int.pow_succ, Nat.succ_mul]
    exact Nat.le_trans (zl_mul (pow_zl d k) (Nat.le_refl _)) (by omega)
/-- The size that holds all. -/
abbrev SN : Nat := 2147483648
structure Sizes (b : List (List Int)) (ts : List (Int × Int)) (n m : Nat) (D : List Int) (L : List (List Int)) (a : Nat → Rat) (y c : List Rat) : Prop where
  aa : ∀ i, i < n → ∀ j, j ≤ m → QB (alq ts (b.getD i []) j) 16777216
  yp : ∀ i, i < n → ∀ j, j ≤ i → QB (yP D L a (yL D L a i) i j) SN
  yy : ∀ i, i < n → QB (y.getD i 0) SN
  cp : ∀ s, s < n → ∀ j, j ≤ s → QB (cP D L y (cB D L y n s) (n - (s + 1)) j) SN
  cc : ∀ i, i < n → QB (c.getD i 0) SN
  l : ∀ k, k < m → ∀ i, i ≤ n → QB (lq b c (tq ts k) k i) SN
  h : ∀ k, k ≤ m → QB (hq b c ts n k) SN
  nn : ∀ i, i < n → ∀ k, k ≤ m → QB (nq b c ts n i k) SN
  tt : ∀ k, k ≤ m → QB (sumN (fun k => tq ts k * tq ts k) k) SN
  ds : ∀ s, s ≤ n → QB (sumN (fun k => tq ts k * tq ts k) m - sumN (fun j => y.getD (n - (j + 1)) 0 * y.getD (n - (j + 1)) 0 * stq D (n - (j + 1))) s) SN
theorem QC.up2 {q : Rat} {t d : Int} {A e f z B : Nat} (h : QC q (t * d ^ e) A) (hf : e ≤ f) (hz : zl d ≤ z) (hB : A + (f - e) * z + 1 ≤ B) : QC q (t * d ^ f) B := by
  refine ((h.up (d ^ (f - e))).cast (d' := t * d ^ f) (by rw [Int.mul_assoc, ← Int.pow_add, Nat.add_sub_cancel' hf])).mono ?_
  have h1 := pow_zl d (f - e)
  have h2 : (f - e) * zl d ≤ (f - e) * z := Nat.mul_le_mul_left _ hz
  omega
theorem QC.zero (d : Int) (A : Nat) : QC 0 d A := ⟨0, by rw [Rat.zero_mul]; rfl, by show lim 0 ≤ _; unfold lim; rw [dig_zero]; exact Nat.zero_le _⟩
theorem sizes_of {b : List (List Int)} {n m : Nat} {D : List Int} {L : List (List Int)} {ts : List (Int × Int)} (hI : DI b n D L) (hD : ∀ k, k ≤ n → zl (D.getD k 0) ≤ 839679) (hL : ∀ i j, i < n → j < i → zl ((L.getD i []).getD j 0) ≤ 839679) (hp : ∀ k, k ≤ n → 0 < D.getD k 0)
    (hn : n ≤ 12) (hm : m ≤ 12) (hts : ts.length = m) (htp : ∀ i, i < ts.length → 0 < (ts.getD i (0, 0)).2) (htz : ∀ i, i < ts.length → zl (ts.getD i (0, 0)).1 ≤ 1048576 ∧ zl (ts.getD i (0, 0)).2 ≤ 1048576) (hb : ∀ i j, zl ((b.getD i []).getD j 0) ≤ 8) :
    Sizes b ts n m D L (fun i => alq ts (b.getD i []) m) (yL D L (fun i => alq ts (b.getD i []) m) n) (cB D L (yL D L (fun i => alq ts (b.getD i []) m) n) n n) := by
  subst hts
  obtain ⟨a, ha⟩ : ∃ a, a = fun i => alq ts (b.getD i []) ts.length := ⟨_, rfl⟩
  rw [← ha]
  obtain ⟨T, hT⟩ : ∃ T, T = dpr ts := ⟨_, rfl⟩
  obtain ⟨dl, hdl⟩ : ∃ d, d = dpd D := ⟨_, rfl⟩
  have T0 : 0 < T := by rw [hT]; exact dpr_pos htp
  have dl0 : 0 < dl := by rw [hdl]; exact dpd_pos fun i hi => hp i (by rw [hI.lD] at hi; omega)
  have Tz : zl T ≤ 12582913 := by
    rw [hT]
    exact Nat.le_trans (dpr_zl (K := 1048576) fun i hi => (htz i hi).2) (Nat.succ_le_succ (Nat.le_trans (Nat.mul_le_mul_right _ hm) (by decide)))
  have dz : zl dl ≤ 10915828 := by
    rw [hdl]
    refine Nat.le_trans (dpd_zl (K := 839679) fun i hi => hD i (by rw [hI.lD] at hi; omega)) ?_
    rw [hI.lD]
    have : (n + 1) * 839679 ≤ 10915827 := Nat.le_trans (Nat.mul_le_mul_right _ (show n + 1 ≤ 13 by omega)) (by decide)
    exact Nat.succ_le_succ this
  have hz : ∀ k, zl (dl ^ k) ≤ k * 10915828 + 1 := fun k => Nat.le_trans (pow_zl dl k) (by have := Nat.mul_le_mul_left k dz; omega)
  have hdv : ∀ k, k ≤ n → D.getD k 0 ∣ dl := fun k hk => by rw [hdl]; exact dpd_dvd (by rw [hI.lD]; omega)
  have hne : ∀ k, k ≤ n → D.getD k 0 ≠ 0 := fun k hk => by have := hp k hk; omega
  have hM : ∀ i j, j < i → i < n → QC (muq D L i j) dl 11755507 := fun i j hj hi => (mu_size (by omega) (hne (j + 1) (by omega)) (hdv (j + 1) (by omega))).mono (by have := hL i j hi hj; omega)
  have hMS : ∀ i j, j < i → i < n → QC (muq D L i j * stq D j) dl 11755507 := fun i j hj hi => (mus_size (by omega) (hne (j + 1) (by omega)) (hne j (by omega)) (hdv j (by omega))).mono (by have := hL i j hi hj; omega)
  have hS : ∀ i, i < n → QC ((stq D i)⁻¹) dl 11755507 := fun i hi => (st_size (by omega) (hne (i + 1) (by omega)) (hne i (by omega)) (hdv (i + 1) (by omega))).mono (by have := hD i (by omega); omega)
  have hSt : ∀ i, i < n → QC (stq D i) dl 11755507 := fun i hi => (QC.dvd (hne i (by omega)) (by omega) (hdv i (by omega))).mono (by have := hD (i + 1) (by omega); omega)
  have ht : ∀ k, k < ts.length → QC (tq ts k) T 13631489 := fun k hk => by
    rw [hT]
    exact (t_size htp hk).mono (by have := (htz k hk).1; rw [← hT]; omega)
  have hA1 : ∀ i j, j ≤ ts.length → QC (alq ts (b.getD i []) j) T 13631510 := fun i j hj => (a_size ht (fun k => hb i k) j hj).mono (by omega)
  have hA : ∀ i, i < n → QC (a i) T 13631510 := fun i _ => by rw [ha]; exact hA1 i _ (Nat.le_refl _)
  have pos : ∀ e, 0 < T * dl ^ e := fun e => Int.mul_pos T0 (Int.pow_pos dl0)
  have zle : ∀ e, zl (T * dl ^ e) ≤ 12582913 + (e * 10915828 + 1) := fun e => zl_mul Tz (hz e)
  have hYY := y_size (D := D) (L := L) (a := a) (t := T) (dl := dl) (A0 := 13631510) (z := 10915828) (m := 11755507) (n := n) hA hMS hS hz
  have w12 : ∀ k, k * (10915828 + 11755507 + n + 2) ≤ k * 22671349 := fun k => Nat.mul_le_mul_left _ (by omega)
  have hY : ∀ i, i < n → QC ((yL D L a n).getD i 0) (T * dl ^ 23) 557743886 := fun i hi => by
    rw [yL_at D L a hi]
    refine (hYY i hi).2.up2 (by omega) dz ?_
    have := w12 (2 * i + 1)
    omega
  have hC0 := c_size (D := D) (L := L) (y := yL D L a n) (t := T) (dl := dl) (A1 := 557743886) (e0 := 23) (z := 10915828) (m := 11755507) (n := n) hY hM hz
  have hC : ∀ i, i < n → QC ((cB D L (yL D L a n) n n).getD i 0) (T * dl ^ 34) 829800087 := fun i hi => by
    refine (c_size' (D := D) (L := L) (y := yL D L a n) hY hM hz hi).up2 (by omega) dz ?_
    have := w12 (n - 1 - i)
    omega
  have hTT : ∀ k, k < ts.length → QC (tq ts k) (T * dl ^ 34) 829800087 := fun k hk => (((ht k hk).up (dl ^ 34))).mono (by have := hz 34; omega)
  have hl : ∀ k, k < ts.length → ∀ i, i ≤ n → QC (lq b (cB D L (yL D L a n) n n) (tq ts k) k i) (T * dl ^ 34) (829800087 + 8 + 12) := fun k hk i hi => (l_size (hTT k hk) hC (fun i _ => hb i k) i hi).mono (by omega)
  have z34 := zle 34
  have p34 := pos 34
  have z2 := zl_mul z34 z34
  have htt : ∀ k, k ≤ ts.length → QC (sumN (fun k => tq ts k * tq ts k) k) (T * T) (27262978 + k) := by
    intro k
    induction k with
    | zero => intro _; exact QC.zero _ _
    | succ k ih => intro hk; exact ((ih (by omega)).add ((ht k (by omega)).mul (ht k (by omega)))).mono (by omega)
  have hYS : ∀ j, j < n → QC ((yL D L a n).getD (n - (j + 1)) 0 * (yL D L a n).getD (n - (j + 1)) 0 * stq D (n - (j + 1))) ((T * dl ^ 23) * (T * dl ^ 23) * dl) 1127243279 := fun j hj => (((hY _ (by omega)).mul (hY _ (by omega))).mul (hSt _ (by omega))).mono (by omega)
  have z23 := zle 23
  have p23 := pos 23
  have zP : zl ((T * dl ^ 23) * (T * dl ^ 23) * dl) ≤ 538209834 := Nat.le_trans (zl_mul (zl_mul z23 z23) dz) (by omega)
  have hds : ∀ s, s ≤ n → QC (sumN (fun k => tq ts k * tq ts k) ts.length - sumN (fun j => (yL D L a n).getD (n - (j + 1)) 0 * (yL D L a n).getD (n - (j + 1)) 0 * stq D (n - (j + 1))) s) ((T * dl ^ 23) * (T * dl ^ 23) * dl) (1127243279 + s) := by
    intro s
    induction s with
    | zero =>
      intro _
      have e := ((htt ts.length (Nat.le_refl _)).up (dl ^ 23 * dl ^ 23 * dl)).cast (d' := (T * dl ^ 23) * (T * dl ^ 23) * dl) (by ac_rfl)
      show QC (_ - (0 : Rat)) _ _
      rw [show ∀ x : Rat, x - 0 = x from fun x => by grind]
      refine e.mono ?_
      have h23 := hz 23
      have := zl_mul (zl_mul h23 h23) dz
      omega
    | succ s ih =>
      intro hs
      have := ((ih (by omega)).sub (hYS s (by omega))).mono (B := 1127243279 + (s + 1)) (by omega)
      show QC (_ - (sumN _ s + _)) _ _
      rw [show ∀ x y z : Rat, x - (y + z) = x - y - z from fun x y z => by grind]
      exact this
  refine ⟨fun i hi j hj => ?_, fun i hi j hj => ?_, fun i hi => ?_, fun s hs j hj => ?_, fun i hi => ?_, fun k hk i hi => ?_, fun k hk => ?_, fun i hi k hk => ?_, fun k hk => ?_, fun s hs => ?_⟩
  · exact ((hA1 i j hj).mono (by decide)).qb T0 (by omega)
  · have h := (hYY i hi).1 j hj
    have h2 := w12 (2 * i)
    have h3 := zle (2 * i)
    exact (h.mono (B := SN) (by show _ ≤ 2147483648; omega)).qb (pos _) (by show _ ≤ 2147483648; omega)
  · exact ((hY i hi).mono (by decide)).qb p23 (by show _ ≤ 2147483648; omega)
  · have h := hC0 s hs j hj
    have h2 := w12 s
    have h3 := zle (23 + s)
    exact (h.mono (B := SN) (by show _ ≤ 2147483648; omega)).qb (pos _) (by show _ ≤ 2147483648; omega)
  · exact ((hC i hi).mono (by decide)).qb p34 (by show _ ≤ 2147483648; omega)
  · exact ((hl k hk i hi).mono (by decide)).qb p34 (by show _ ≤ 2147483648; omega)
  · have h := h_size (b := b) (c := cB D L (yL D L a n) n n) hTT hC (fun i k _ => hb i k) k hk
    exact (h.mono (B := SN) (by show _ ≤ 2147483648; omega)).qb (Int.mul_pos p34 p34) (by show _ ≤ 2147483648; omega)
  · have h : ∀ k, k ≤ ts.length → QC (nq b (cB D L (yL D L a n) n n) ts n i k) (T * dl ^ 34) (829800087 + 8 + 12 + 8 + k) := by
      intro k
      induction k with
      | zero => intro _; exact QC.zero _ _
      | succ k ih =>
        intro hk
        have q := ((hl k (by omega) n (Nat.le_refl _)).mul (QC.int ((b.getD i []).getD k 0))).cast (d' := T * dl ^ 34) (Int.mul_one _)
        have := hb i k
        exact ((ih (by omega)).add q).mono (by omega)
    exact ((h k hk).mono (B := SN) (by show _ ≤ 2147483648; omega)).qb p34 (by show _ ≤ 2147483648; omega)
  · exact ((htt k hk).mono (B := SN) (by show _ ≤ 2147483648; omega)).qb (Int.mul_pos T0 T0) (by have := zl_mul Tz Tz; show _ ≤ 2147483648; omega)
  · exact ((hds s hs).mono (B := SN) (by show _ ≤ 2147483648; omega)).qb (Int.mul_pos (Int.mul_pos p23 p23) dl0) (by show _ ≤ 2147483648; omega)
end Go.Proofs.Ytmfgnbchehnpjaa.V
/- What a basis is; sums of rows. -/
set_option linter.unusedVariables false
set_option linter.unusedSimpArgs false
set_option maxRecDepth 100000
namespace Go.Proofs.Ytmfgnbchehnpjaa.V
open Go.RowKit Mt Nml
end Go.Proofs.Ytmfgnbchehnpjaa.V
/- The law of the lengths. -/
set_option linter.unusedVariables false
set_option linter.unusedSimpArgs false
set_option maxRecDepth 100000
namespace Go.Proofs.Ytmfgnbchehnpjaa.V
open Go.RowKit Mt Nml
theorem zl_bits {z : Int} (h : nbits z.natAbs ≤ 256) : zl z ≤ 8 := by
  unfold zl
  refine lim_le ?_
  have h1 := lt_nbits z.natAbs
  have h2 : 2 ^ nbits z.natAbs ≤ 2 ^ 256 := Nat.pow_le_pow_right (by omega) h
  have h3 : B 8 = ((2 ^ 256 : Nat) : Int) := by decide
  rw [h3]
  exact Int.ofNat_lt.2 (Nat.lt_of_lt_of_le h1 h2)
theorem ent_bits {b : List (List Int)} (h : matB b b.length ≤ 256) (i j : Nat) : zl ((b.getD i []).getD j 0) ≤ 8 := by
  by_cases hi : i < b.length
  · by_cases hj : j < (b.getD i []).length
    · exact zl_bits (Nat.le_trans (matB_at hi hj) h)
    · rw [List.getD_eq_getElem?_getD (l := b.getD i []), List.getElem?_eq_none (by omega)]
      show zl 0 ≤ 8
      rw [zl_zero]; omega
  · rw [List.getD_eq_getElem?_getD (l := b), List.getElem?_eq_none (by omega)]
    show zl (([] : List Int).getD j 0) ≤ 8
    rw [show ([] : List Int).getD j 0 = 0 from by simp, zl_zero]; omega
theorem val_S {b : List (List Int)} (h : matB b b.length ≤ 256) (hr : ∀ i, i < b.length → (b.getD i []).length ≤ 12) : ∀ i j, i < b.length → j ≤ i → zl (dotU (b.getD i []) (b.getD j []) (b.getD i []).length) ≤ 204 := fun i j hi hj =>
  Nat.le_trans (zl_dotU (ent_bits h i) (ent_bits h j) _) (Nat.le_trans (Nat.mul_le_mul_right _ (hr i hi)) (by decide))
theorem shr_zero {b : List (List Int)} {q : Bool} (h : ShR b q 0) : ¬ BigB b q ∧ b.length ≠ 0 ∧ ¬ BadB b := by
  have h1 : ¬ BigB b q := fun k => by have := h.big k; omega
  have h2 : b.length ≠ 0 := fun k => by have := h.nil h1 k; omega
  exact ⟨h1, h2, fun k => by have := h.bad h1 h2 k; omega⟩
/-- Rows that may be a basis, but for dependence. -/
theorem shr_basis {b : List (List Int)} (h : ShR b true 0) : 0 < b.length ∧ b.length ≤ 12 ∧ (∀ i, i < b.length → (b.getD i []).length = (b.getD 0 []).length) ∧ (b.getD 0 []).length ≤ 12 ∧ matB b b.length ≤ 256 := by
  obtain ⟨h1, h2, h3⟩ := shr_zero h
  refine ⟨by omega, Nat.not_lt.1 fun k => h1 (.inl k), fun i hi => Decidable.not_not.1 fun e => h3 ⟨i, hi, e⟩, Nat.not_lt.1 fun k => h1 (.inr (.inr ⟨0, by omega, k⟩)), Nat.not_lt.1 fun k => h1 (.inr (.inl ⟨rfl, k⟩))⟩
theorem g_le {D : List Int} {L : List (List Int)} {K : Nat} : (T.st [T.l (cZ K) D, T.l (cL (cZ K)) L]).le (T.G D L K) := st_le (l := [T.l (cZ K) D, T.l (cL (cZ K)) L]) (l' := [T.l (cZi K) D, T.l (cL (cZi K)) L]) ⟨tl_le (fun z => z_zi z K) D, tl_le (fun r => tl_le (fun z => z_zi z K) r) L, trivial⟩
theorem g_mono {D : List Int} {L : List (List Int)} {K K' : Nat} (h : K ≤ K') : (T.G D L K).le (T.G D L K') := st_le (l := [T.l (cZi K) D, T.l (cL (cZi K)) L]) (l' := [T.l (cZi K') D, T.l (cL (cZi K')) L]) ⟨tl_le (fun z => zi_mono h) D, tl_le (fun r => tl_le (fun z => zi_mono h) r) L, trivial⟩
end Go.Proofs.Ytmfgnbchehnpjaa.V
/- The nearest point of a span. -/
set_option linter.unusedVariables false
set_option linter.unusedSimpArgs false
set_option maxRecDepth 100000
namespace Go.Proofs.Ytmfgnbchehnpjaa.V
open Go.RowKit Mt Nml
/-- The rows while they are filled: from the front, from the back. -/
def yR (D : List Int) (L : List (List Int)) (a : Nat → Rat) (n i : Nat) : List (Int × Int) := (yL D L a i).map nd ++ List.replicate (n - i) (0, 0)
def cR (D : List Int) (L : List (List Int)) (y : List Rat) (n s : Nat) : List (Int × Int) := List.replicate (n - s) (0, 0) ++ (cB D L y n s).map nd
theorem yR_len {D : List Int} {L : List (List Int)} {a : Nat → Rat} {n i : Nat} (h : i ≤ n) : (yR D L a n i).length = n := by
  unfold yR
  rw [List.length_append, List.length_map, yL_len, List.length_replicate]; omega
theorem cR_len {D : List Int} {L : List (List Int)} {y : List Rat} {n s : Nat} (h : s ≤ n) : (cR D L y n s).length = n := by
  unfold cR
  rw [List.length_append, List.length_map, cB_len, List.length_replicate]; omega
theorem map_nd {l : List Rat} {j : Nat} (h : j < l.length) : (l.map nd).getD j (0, 0) = nd (l.getD j 0) := by
  rw [List.getD_eq_getElem?_getD, List.getElem?_map, List.getD_eq_getElem?_getD, List.getElem?_eq_getElem h]; rfl
theorem set_at {α : Type} {l : List α} {i : Nat} {v d : α} (h : i < l.length) : (l.set i v).getD i d = v := by
  rw [List.getD_eq_getElem?_getD, List.getElem?_set_self h]; rfl
theorem set_ne {α : Type} {l : List α} {i j : Nat} {v d : α} (h : i ≠ j) : (l.set i v).getD j d = l.getD j d := by
  rw [List.getD_eq_getElem?_getD, List.getElem?_set_ne h, List.getD_eq_getElem?_getD]
theorem yR_get {D : List Int} {L : List (List Int)} {a : Nat → Rat} {n i j : Nat} (h : j < i) : (yR D L a n i).getD j (0, 0) = nd ((yL D L a i).getD j 0) := by
  unfold yR
  rw [List.getD_eq_getElem?_getD, List.getElem?_append_left (by rw [List.length_map, yL_len]; exact h), ← List.getD_eq_getElem?_getD, map_nd (by rw [yL_len]; exact h)]
theorem cR_get {D : List Int} {L : List (List Int)} {y : List Rat} {n s q : Nat} (hs : s ≤ n) (h : q < s) : (cR D L y n s).getD (n - s + q) (0, 0) = nd ((cB D L y n s).getD q 0) := by
  unfold cR
  rw [List.getD_eq_getElem?_getD, List.getElem?_append_right (by rw [List.length_replicate]; omega), List.length_replicate, Nat.add_sub_cancel_left, ← List.getD_eq_getElem?_getD, map_nd (by rw [cB_len]; exact h)]
theorem yR_next {D : List Int} {L : List (List Int)} {a : Nat → Rat} {n i : Nat} (h : i < n) : (yR D L a n i).set i (nd (yP D L a (yL D L a i) i i / stq D i)) = yR D L a n (i + 1) := by
  have := fill_set ((yL D L a i).map nd) n (0, 0) (nd (yP D L a (yL D L a i) i i / stq D i)) (by rw [List.length_map, yL_len]; exact h)
  rw [List.length_map, yL_len] at this
  unfold yR
  rw [this, yL, List.map_append]
  rfl
theorem cR_next {D : List Int} {L : List (List Int)} {y : List Rat} {n s : Nat} (h : s < n) : (cR D L y n s).set (n - (s + 1)) (nd (cP D L y (cB D L y n s) (n - (s + 1)) s)) = cR D L y n (s + 1) := by
  unfold cR
  rw [List.set_append_left _ _ (by rw [List.length_replicate]; omega), show n - s = n - (s + 1) + 1 by omega, List.replicate_succ', List.set_append_right _ _ (by rw [List.length_replicate]; omega), List.length_replicate, Nat.sub_self, List.append_assoc]
  rfl
theorem yR_full {D : List Int} {L : List (List Int)} {a : Nat → Rat} {n j : Nat} (h : j < n) : (yR D L a n n).getD j (0, 0) = nd ((yL D L a n).getD j 0) := yR_get h
theorem cR_full {D : List Int} {L : List (List Int)} {y : List Rat} {n : Nat} : cR D L y n n = (cB D L y n n).map nd := by
  unfold cR
  rw [Nat.sub_self]; rfl
theorem cR_zero {D : List Int} {L : List (List Int)} {y : List Rat} {n : Nat} : cR D L y n 0 = List.replicate n (0, 0) := by
  unfold cR
  simp [cB]
theorem yR_zero {D : List Int} {L : List (List Int)} {a : Nat → Rat} {n : Nat} : yR D L a n 0 = List.replicate n (0, 0) := by
  unfold yR
  simp [yL]

theorem rat_div_ne {a b : Int} (ha : a ≠ 0) (hb : b ≠ 0) : (a : Rat) / (b : Rat) ≠ 0 := fun h => by
  have h1 := rat_ne ha
  have h2 := rat_ne hb
  generalize (a : Rat) = x at *
  generalize (b : Rat) = y at *
  grind

theorem g_lies {b : List (List Int)} {ts : List (Int × Int)} {D : List Int} {L : List (List Int)} {a : Nat → Rat} {k m K : Nat} (hw : Fn Try.prog 17 [T.l (cL (cZi k)) b] [] [] [] (T.tup [T.st [T.l (cZ K) D, T.l (cL (cZ K)) L], T.c (.int .i64 0)])) (hG : GoodP D L) (hLn : L.length = b.length) (hK : K ≤ 1048576) (hm : ∀ i, i < b.length → (b.getD i []).length = m) (hts : ts.length = m) (hmm : m ≤ 12) (hbl : b.length ≤ 12) (htp : ∀ i, i < ts.length → 0 < (ts.getD i (0, 0)).2) (hk : k ≤ 1048576) (ha : ∀ i, i < b.length → alq ts (b.getD i []) m = a i) (hs : Sizes b ts b.length m D L a (yL D L a b.length) (cB D L (yL D L a b.length) b.length b.length)) : Fn Try.prog 111 [T.l (cL (cZi k)) b, T.l (cQi k) ts] [] [] [] (T.tup [T.l (cQp SN) ((cB D L (yL D L a b.length) b.length b.length).map nd), T.Q (hq b (cB D L (yL D L a b.length) b.length b.length) ts b.length m) SN]) := by
  refine fn_of Try.func111 rfl (by show 2 ≤ 222; decide) fun cx hcx => ?_
  refine tri_sub (sl 0 rfl (sl 1 rfl sn)) en ?_
  have hSN : SN = 2147483648 := rfl
  have hgl : (T.st [T.l (cZ K) D, T.l (cL (cZ K)) L]).le (T.G D L 1048576) := g_le.trans (g_mono hK)
  have hyz := @yR_zero D L a b.length
  have hcz := @cR_zero D L (yL D L a b.length) b.length
  refine tri_seq ?_
  refine tri_reg mixed hcx ?_ _ _
  refine asg rfl ?_
  refine nw 11 zeQ ?_
  refine ⟨by kernel_rfl, ?_⟩
  refine nx (sl 0 rfl (sl 1 rfl (sl 5 rfl sn))) (el 11 rfl en) ?_
  refine tri_seq ?_
  refine tri_reg mixed hcx ?_ _ _
  refine mv rfl ?_
  refine ca rfl (h := hw) (hn := ?_)
  refine mv rfl ?_
  refine ex rfl rfl ?_
  refine ex rfl rfl ?_
  refine nw 115 zeG ?_
  refine sts rfl rfl rfl tyG rfl ?_
  refine asg rfl ?_
  refine ⟨by kernel_rfl, ?_⟩
  refine nx (sl 0 rfl (sl 1 rfl (sl 5 rfl (sl 6 rfl sn)))) (el 11 rfl (el 115 rfl en)) ?_
  refine tri_seq ?_
  refine tri_reg mixed hcx ?_ _ _
  refine mv rfl ?_
  refine ln slZss rfl ?_
  refine asg rfl ?_
  refine ⟨by kernel_rfl, ?_⟩
  refine nx (sl 0 rfl (sl 1 rfl (sl 5 rfl (sl 6 rfl (sl 8 rfl sn))))) (el 11 rfl (el 115 rfl en)) ?_
  refine tri_seq ?_
  refine tri_reg mixed hcx ?_ _ _
  refine mv rfl ?_
  refine mkz (c := cQp SN) (n := b.length) 311 slQs rfl (by omega) (fun u => ⟨zvQ, zrQp SN u⟩) (by decide) ?_
  refine asg rfl ?_
  refine ⟨by kernel_rfl, ?_⟩
  refine nx (sl 0 rfl (sl 1 rfl (sl 5 rfl (sl 6 rfl (sl 8 rfl (sl 9 rfl sn)))))) (el 11 rfl (el 115 rfl (el 311 rfl en))) ?_
  refine tri_seq ?_
  refine tri_seq ?_
  refine tri_reg mixed hcx ?_ _ _
  refine mv rfl ?_
  refine mv rfl ?_
  refine ⟨by kernel_rfl, ?_⟩
  refine nx (sl 0 rfl (sl 1 rfl (sl 5 rfl (sl 6 rfl (sl 8 rfl (sl 9 rfl (sl 42 rfl (sl 43 rfl sn)))))))) (el 11 rfl (el 115 rfl (el 311 rfl en))) ?_
  refine tri_block ?_
  refine tri_loop (ι := Nat) (fun i => [(0, T.l (cL (cZi k)) b), (1, T.l (cQi k) ts), (5, T.p 11 0), (6, T.p 115 0), (8, T.c (.int .i64 (b.length : Int))), (9, T.o 311), (42, T.c (.int .i64 (b.length : Int))), (43, T.c (.int .i64 (i : Int)))]) (fun i => [(11, some (Ent.box 43 [T.c (.bool false), T.c (.slice none 0 0), T.c (.bool false), T.c (.slice none 0 0)])), (115, some (Ent.box 26 [T.l (cZ K) D, T.l (cL (cZ K)) L])), (311, some (Ent.row (cQp SN) 43 (yR D L a b.length i)))]) (fun i => b.length - i) (fun i => (i ≤ b.length)) 0 (Nat.zero_le _) (sl 0 rfl (sl 1 rfl (sl 5 rfl (sl 6 rfl (sl 8 rfl (sl 9 rfl (sl 42 rfl (sl 43 rfl sn)))))))) (el 11 rfl (el 115 rfl (ew 311 rfl (.of (by rw [hyz]; rfl)) en))) ?_
  rintro i hi
  refine tri_sub (sl 0 rfl (sl 1 rfl (sl 5 rfl (sl 6 rfl (sl 8 rfl (sl 9 rfl (sl 42 rfl (sl 43 rfl sn)))))))) (el 11 rfl (el 115 rfl (el 311 rfl en))) ?_
  have hyl := @yR_len D L a b.length i hi
  refine tri_seq ?_
  refine tri_reg mixed hcx ?_ _ _
  refine clt rfl rfl rfl ?_
  refine ⟨by kernel_rfl, ?_⟩
  refine nx (sl 0 rfl (sl 1 rfl (sl 5 rfl (sl 6 rfl (sl 8 rfl (sl 9 rfl (sl 42 rfl (sl 43 rfl (sl 44 rfl sn))))))))) (el 11 rfl (el 115 rfl (el 311 rfl en))) ?_
  refine tri_seq ?_
  refine tri_if rfl (fun hc => ?_) (fun hc => ?_)
  · have hi2 : i < b.length := by omega
    have hmi : (b.getD i (cL (cZi k)).dflt).length = m := hm i hi2
    have hmi2 : (b.getD i []).length = m := hm i hi2
    have hys : ∀ v, (List.set (yR D L a b.length i) i v).length = b.length := fun v => by rw [List.length_set]; exact hyl
    refine tri_skip ?_
    refine nx (sl 0 rfl (sl 1 rfl (sl 5 rfl (sl 6 rfl (sl 8 rfl (sl 9 rfl (sl 42 rfl (sl 43 rfl sn)))))))) (el 11 rfl (el 115 rfl (el 311 rfl en))) ?_
    refine tri_seq ?_
    refine tri_block ?_
    refine tri_seq ?_
    refine tri_reg mixed hcx ?_ _ _
    refine mv rfl ?_
    refine asg rfl ?_
    refine ⟨by kernel_rfl, ?_⟩
    refine nx (sl 0 rfl (sl 1 rfl (sl 5 rfl (sl 6 rfl (sl 8 rfl (sl 9 rfl (sl 10 rfl (sl 42 rfl (sl 43 rfl sn))))))))) (el 11 rfl (el 115 rfl (el 311 rfl en))) ?_
    refine tri_seq ?_
    refine tri_reg mixed hcx ?_ _ _
    refine mv rfl ?_
    refine mv rfl ?_
    refine mv rfl ?_
    refine mv rfl ?_
    refine mv rfl ?_
    refine ix rfl rfl slZss ⟨rfl, by omega⟩ ?_
    refine lf rfl tyZs ?_
    refine ca rfl (h := g_along (r := b.getD i (cL (cZi k)).dflt) (S := 16777216) (by omega) (by omega) htp (by omega) (by decide) (fun j hj => hs.aa i hi2 j (by omega))) (hn := ?_)
    refine ixo rfl rfl rfl slQs ⟨rfl, by omega⟩ ?_
    refine so rfl rfl rfl (q_p (q' := yP D L a (yL D L a i) i 0) (by rw [hmi]; exact ha i hi2) (hs.yp i hi2 0 (Nat.zero_le _))) tyQ ⟨rfl, by omega⟩ ?_
    refine ⟨by kernel_rfl, ?_⟩
    refine nx (sl 0 rfl (sl 1 rfl (sl 5 rfl (sl 6 rfl (sl 8 rfl (sl 9 rfl (sl 10 rfl (sl 42 rfl (sl 43 rfl sn))))))))) (el 11 rfl (el 115 rfl (el 311 rfl en))) ?_
    refine tri_seq ?_
    refine tri_seq ?_
    refine tri_reg mixed hcx ?_ _ _
    refine mv rfl ?_
    refine mv rfl ?_
    refine ⟨by kernel_rfl, ?_⟩
    refine nx (sl 0 rfl (sl 1 rfl (sl 5 rfl (sl 6 rfl (sl 8 rfl (sl 9 rfl (sl 10 rfl (sl 42 rfl (sl 43 rfl (sl 55 rfl (sl 56 rfl sn))))))))))) (el 11 rfl (el 115 rfl (el 311 rfl en))) ?_
    refine tri_block ?_
    refine tri_loop (ι := Nat) (fun j => [(0, T.l (cL (cZi k)) b), (1, T.l (cQi k) ts), (5, T.p 11 0), (6, T.p 115 0), (8, T.c (.int .i64 (b.length : Int))), (9, T.o 311), (10, T.c (.int .i64 (i : Int))), (42, T.c (.int .i64 (b.length : Int))), (43, T.c (.int .i64 (i : Int))), (55, T.c (.int .i64 (i : Int))), (56, T.c (.int .i64 (j : Int)))]) (fun j => [(11, some (Ent.box 43 [T.c (.bool false), T.c (.slice none 0 0), T.c (.bool false), T.c (.slice none 0 0)])), (115, some (Ent.box 26 [T.l (cZ K) D, T.l (cL (cZ K)) L])), (311, some (Ent.row (cQp SN) 43 (List.set (yR D L a b.length i) i (nd (yP D L a (yL D L a i) i j)))))]) (fun j => i - j) (fun j => (j ≤ i)) 0 (Nat.zero_le _) (sl 0 rfl (sl 1 rfl (sl 5 rfl (sl 6 rfl (sl 8 rfl (sl 9 rfl (sl 10 rfl (sl 42 rfl (sl 43 rfl (sl 55 rfl (sl 56 rfl sn))))))))))) (el 11 rfl (el 115 rfl (el 311 rfl en))) ?_
    rintro j hj
    refine tri_sub (sl 0 rfl (sl 1 rfl (sl 5 rfl (sl 6 rfl (sl 8 rfl (sl 9 rfl (sl 10 rfl (sl 42 rfl (sl 43 rfl (sl 55 rfl (sl 56 rfl sn))))))))))) (el 11 rfl (el 115 rfl (el 311 rfl en))) ?_
    have hyj := hys (nd (yP D L a (yL D L a i) i j))
    refine tri_seq ?_
    refine tri_reg mixed hcx ?_ _ _
    refine clt rfl rfl rfl ?_
    refine ⟨by kernel_rfl, ?_⟩
    refine nx (sl 0 rfl (sl 1 rfl (sl 5 rfl (sl 6 rfl (sl 8 rfl (sl 9 rfl (sl 10 rfl (sl 42 rfl (sl 43 rfl (sl 55 rfl (sl 56 rfl (sl 57 rfl sn)))))))))))) (el 11 rfl (el 115 rfl (el 311 rfl en))) ?_
    refine tri_seq ?_
    refine tri_if rfl (fun hd => ?_) (fun hd => ?_)
    · have hj2 : j < i := by omega
      refine tri_skip ?_
      refine nx (sl 0 rfl (sl 1 rfl (sl 5 rfl (sl 6 rfl (sl 8 rfl (sl 9 rfl (sl 10 rfl (sl 42 rfl (sl 43 rfl (sl 55 rfl (sl 56 rfl sn))))))))))) (el 11 rfl (el 115 rfl (el 311 rfl en))) ?_
      refine tri_seq ?_
      refine tri_block ?_
      refine tri_seq ?_
      refine tri_reg mixed hcx ?_ _ _
      refine mv rfl ?_
      refine asg rfl ?_
      refine ⟨by kernel_rfl, ?_⟩
      refine nx (sl 0 rfl (sl 1 rfl (sl 5 rfl (sl 6 rfl (sl 8 rfl (sl 9 rfl (sl 10 rfl (sl 11 rfl (sl 42 rfl (sl 43 rfl (sl 55 rfl (sl 56 rfl sn)))))))))))) (el 11 rfl (el 115 rfl (el 311 rfl en))) ?_
      refine tri_seq ?_
      refine tri_reg mixed hcx ?_ _ _
      refine ld rfl rfl tyG rfl ?_
      refine mv rfl ?_
      refine mv rfl ?_
      refine ca rfl (h := (g_Mu (k := 1048576) (by decide) (by omega) hG (show i < L.length by omega) hj2)) (hn := ?_)
      refine mv rfl ?_
      refine ex rfl rfl ?_
      refine ex rfl rfl ?_
      refine nw 1117 zeQ ?_
      refine st rfl rfl rfl tyQ rfl ?_
      refine asg rfl ?_
      refine ⟨by kernel_rfl, ?_⟩
      refine nx (sl 0 rfl (sl 1 rfl (sl 5 rfl (sl 6 rfl (sl 8 rfl (sl 9 rfl (sl 10 rfl (sl 11 rfl (sl 12 rfl (sl 42 rfl (sl 43 rfl (sl 55 rfl (sl 56 rfl sn))))))))))))) (el 11 rfl (el 115 rfl (el 311 rfl (el 1117 rfl en)))) ?_
      refine tri_seq ?_
      refine tri_reg mixed hcx ?_ _ _
      refine ld rfl rfl tyG rfl ?_
      refine mv rfl ?_
      refine ca rfl (h := (g_Star (k := 1048576) (by decide) (by omega) hG (show j < L.length by omega))) (hn := ?_)
      refine mv rfl ?_
      refine ex rfl rfl ?_
      refine ex rfl rfl ?_
      refine nw 1216 zeQ ?_
      refine st rfl rfl rfl tyQ rfl ?_
      refine asg rfl ?_
      refine ⟨by kernel_rfl, ?_⟩
      refine nx (sl 0 rfl (sl 1 rfl (sl 5 rfl (sl 6 rfl (sl 8 rfl (sl 9 rfl (sl 10 rfl (sl 11 rfl (sl 12 rfl (sl 14 rfl (sl 42 rfl (sl 43 rfl (sl 55 rfl (sl 56 rfl sn)))))))))))))) (el 11 rfl (el 115 rfl (el 311 rfl (el 1117 rfl (el 1216 rfl en))))) ?_
      refine tri_seq ?_
      refine tri_reg mixed hcx ?_ _ _
      refine ld rfl rfl tyQ rfl ?_
      refine ld rfl rfl tyQ rfl ?_
      refine cb rfl (h := rv_Mul (by omega) (by omega)) (hn := ?_)
      refine mv rfl ?_
      refine ex rfl rfl ?_
      refine ex rfl rfl ?_
      refine nw 1316 zeQ ?_
      refine st rfl rfl rfl tyQ rfl ?_
      refine asg rfl ?_
      refine ⟨by kernel_rfl, ?_⟩
      refine nx (sl 0 rfl (sl 1 rfl (sl 5 rfl (sl 6 rfl (sl 8 rfl (sl 9 rfl (sl 10 rfl (sl 11 rfl (sl 16 rfl (sl 42 rfl (sl 43 rfl (sl 55 rfl (sl 56 rfl sn))))))))))))) (el 11 rfl (el 115 rfl (el 311 rfl (el 1117 rfl (el 1216 rfl (el 1316 rfl en)))))) ?_
      refine tri_seq ?_
      refine tri_reg mixed hcx ?_ _ _
      refine ld rfl rfl tyQ rfl ?_
      refine mv rfl ?_
      refine mv rfl ?_
      refine ixo rfl rfl rfl slQs ⟨rfl, by omega⟩ ?_
      refine lox (X := T.Q ((yL D L a i).getD j 0) SN) j rfl rfl tyQ ⟨rfl, rfl, by omega⟩ (p_q (by rw [show (cQp SN).dflt = (0, 0) from rfl, set_ne (by omega), yR_get hj2])) ?_
      refine cb rfl (h := rv_Mul (by omega) (by omega)) (hn := ?_)
      refine mv rfl ?_
      refine ex rfl rfl ?_
      refine ex rfl rfl ?_
      refine st rfl rfl rfl tyQ rfl ?_
      refine ⟨by kernel_rfl, ?_⟩
      refine nx (sl 0 rfl (sl 1 rfl (sl 5 rfl (sl 6 rfl (sl 8 rfl (sl 9 rfl (sl 10 rfl (sl 16 rfl (sl 42 rfl (sl 43 rfl (sl 55 rfl (sl 56 rfl sn)))))))))))) (el 11 rfl (el 115 rfl (el 311 rfl (el 1117 rfl (el 1216 rfl (el 1316 rfl en)))))) ?_
      refine tri_reg mixed hcx ?_ _ _
      refine mv rfl ?_
      refine mv rfl ?_
      refine mv rfl ?_
      refine mv rfl ?_
      refine ixo rfl rfl rfl slQs ⟨rfl, by omega⟩ ?_
      refine lox (X := T.Q (yP D L a (yL D L a i) i j) SN) i rfl rfl tyQ ⟨rfl, rfl, by omega⟩ (p_q (set_at (by omega))) ?_
      refine ld rfl rfl tyQ rfl ?_
      refine cb rfl (h := rv_Sub (by omega) (by omega)) (hn := ?_)
      refine mv rfl ?_
      refine ex rfl rfl ?_
      refine ex rfl rfl ?_
      refine ixo rfl rfl rfl slQs ⟨rfl, by omega⟩ ?_
      refine so rfl rfl rfl (q_p (q' := yP D L a (yL D L a i) i (j + 1)) rfl (hs.yp i hi2 (j + 1) (by omega))) tyQ ⟨rfl, by omega⟩ ?_
      refine ⟨by kernel_rfl, ?_⟩
      refine pn_blk ?_
      refine nx (sl 0 rfl (sl 1 rfl (sl 5 rfl (sl 6 rfl (sl 8 rfl (sl 9 rfl (sl 10 rfl (sl 42 rfl (sl 43 rfl (sl 55 rfl (sl 56 rfl sn))))))))))) (el 11 rfl (el 115 rfl (el 311 rfl (el 1117 rfl (el 1216 rfl (el 1316 rfl en)))))) ?_
      refine tri_reg mixed hcx ?_ _ _
      refine ad (((j + 1 : Nat) : Int)) rfl rfl rfl (by omega) ?_
      refine mv rfl ?_
      refine ⟨by kernel_rfl, ?_⟩
      exact pn_back (j + 1) (by first | omega | (dsimp only; omega)) (by omega) (sl 0 rfl (sl 1 rfl (sl 5 rfl (sl 6 rfl (sl 8 rfl (sl 9 rfl (sl 10 rfl (sl 42 rfl (sl 43 rfl (sl 55 rfl (sl 56 rfl sn))))))))))) (el 11 rfl (el 115 rfl (ew 311 rfl (.of (by rw [List.set_set])) en)))
    · refine tri_exit ?_
      repeat (first | refine pn_then ?_ | refine pn_oth (by decide) ?_)
      refine pn_ex ?_
      have hji : j = i := by omega
      refine nx (sl 0 rfl (sl 1 rfl (sl 5 rfl (sl 6 rfl (sl 8 rfl (sl 9 rfl (sl 10 rfl (sl 42 rfl (sl 43 rfl sn))))))))) (el 11 rfl (el 115 rfl (el 311 rfl en))) ?_
      refine tri_seq ?_
      refine tri_reg mixed hcx ?_ _ _
      refine ld rfl rfl tyG rfl ?_
      refine mv rfl ?_
      refine ca rfl (h := (g_Star (k := 1048576) (by decide) (by omega) hG (show i < L.length by omega))) (hn := ?_)
      refine mv rfl ?_
      refine ex rfl rfl ?_
      refine ex rfl rfl ?_
      refine nw 1716 zeQ ?_
      refine st rfl rfl rfl tyQ rfl ?_
      refine asg rfl ?_
      refine ⟨by kernel_rfl, ?_⟩
      refine nx (sl 0 rfl (sl 1 rfl (sl 5 rfl (sl 6 rfl (sl 8 rfl (sl 9 rfl (sl 10 rfl (sl 18 rfl (sl 42 rfl (sl 43 rfl sn)))))))))) (el 11 rfl (el 115 rfl (el 311 rfl (el 1716 rfl en)))) ?_
      have hpo := hG.pos (show i ≤ L.length by omega)
      have hpo2 := hG.pos (show i + 1 ≤ L.length by omega)
      have hsne : stq D i ≠ 0 := rat_div_ne (by omega) (by omega)
      refine tri_reg mixed hcx ?_ _ _
      refine mv rfl ?_
      refine mv rfl ?_
      refine mv rfl ?_
      refine mv rfl ?_
      refine ixo rfl rfl rfl slQs ⟨rfl, by omega⟩ ?_
      refine lox (X := T.Q (yP D L a (yL D L a i) i j) SN) i rfl rfl tyQ ⟨rfl, rfl, by omega⟩ (p_q (set_at (by omega))) ?_
      refine ld rfl rfl tyQ rfl ?_
      refine cb rfl (h := rv_Div (by omega) (by omega) hsne) (hn := ?_)
      refine mv rfl ?_
      refine ex rfl rfl ?_
      refine ex rfl rfl ?_
      refine ixo rfl rfl rfl slQs ⟨rfl, by omega⟩ ?_
      refine so rfl rfl rfl (q_p (q' := yP D L a (yL D L a i) i i / stq D i) (by rw [hji]) (by rw [← yL_at D L a hi2]; exact hs.yy i hi2)) tyQ ⟨rfl, by omega⟩ ?_
      refine ⟨by kernel_rfl, ?_⟩
      refine pn_blk ?_
      refine nx (sl 0 rfl (sl 1 rfl (sl 5 rfl (sl 6 rfl (sl 8 rfl (sl 9 rfl (sl 42 rfl (sl 43 rfl sn)))))))) (el 11 rfl (el 115 rfl (el 311 rfl (el 1716 rfl en)))) ?_
      refine tri_reg mixed hcx ?_ _ _
      refine ad (((i + 1 : Nat) : Int)) rfl rfl rfl (by omega) ?_
      refine mv rfl ?_
      refine ⟨by kernel_rfl, ?_⟩
      exact pn_back (i + 1) (by first | omega | (dsimp only; omega)) (by omega) (sl 0 rfl (sl 1 rfl (sl 5 rfl (sl 6 rfl (sl 8 rfl (sl 9 rfl (sl 42 rfl (sl 43 rfl sn)))))))) (el 11 rfl (el 115 rfl (ew 311 rfl (.of (by rw [hji, List.set_set, yR_next hi2])) en)))
  · refine tri_exit ?_
    repeat (first | refine pn_then ?_ | refine pn_oth (by decide) ?_)
    refine pn_ex ?_
    obtain rfl : i = b.length := by omega
    refine nx (sl 0 rfl (sl 1 rfl (sl 5 rfl (sl 6 rfl (sl 8 rfl (sl 9 rfl sn)))))) (el 11 rfl (el 115 rfl (el 311 rfl en))) ?_
    refine tri_seq ?_
    refine tri_reg mixed hcx ?_ _ _
    refine mv rfl ?_
    refine mkz (c := cQp SN) (n := b.length) 2011 slQs rfl (by omega) (fun u => ⟨zvQ, zrQp SN u⟩) (by decide) ?_
    refine asg rfl ?_
    refine ⟨by kernel_rfl, ?_⟩
    refine nx (sl 0 rfl (sl 1 rfl (sl 5 rfl (sl 6 rfl (sl 8 rfl (sl 9 rfl (sl 20 rfl sn))))))) (el 11 rfl (el 115 rfl (el 311 rfl (el 2011 rfl en)))) ?_
    refine tri_seq ?_
    refine tri_seq ?_
    refine tri_reg mixed hcx ?_ _ _
    refine mv rfl ?_
    refine sb (((b.length : Int) - 1)) rfl rfl rfl (by omega) ?_
    refine asg rfl ?_
    refine ⟨by kernel_rfl, ?_⟩
    refine nx (sl 0 rfl (sl 1 rfl (sl 5 rfl (sl 6 rfl (sl 8 rfl (sl 9 rfl (sl 20 rfl (sl 21 rfl sn)))))))) (el 11 rfl (el 115 rfl (el 311 rfl (el 2011 rfl en)))) ?_
    refine tri_block ?_
    refine tri_loop (ι := Nat) (fun s => [(0, T.l (cL (cZi k)) b), (1, T.l (cQi k) ts), (5, T.p 11 0), (6, T.p 115 0), (8, T.c (.int .i64 (b.length : Int))), (9, T.o 311), (20, T.o 2011), (21, T.c (.int .i64 ((b.length : Int) - 1 - (s : Int))))]) (fun s => [(11, some (Ent.box 43 [T.c (.bool false), T.c (.slice none 0 0), T.c (.bool false), T.c (.slice none 0 0)])), (115, some (Ent.box 26 [T.l (cZ K) D, T.l (cL (cZ K)) L])), (311, some (Ent.row (cQp SN) 43 (yR D L a b.length b.length))), (2011, some (Ent.row (cQp SN) 43 (cR D L (yL D L a b.length) b.length s)))]) (fun s => b.length - s) (fun s => (s ≤ b.length)) 0 (Nat.zero_le _) (sl 0 rfl (sl 1 rfl (sl 5 rfl (sl 6 rfl (sl 8 rfl (sl 9 rfl (sl 20 rfl (sw 21 rfl (ci (by simp)) sn)))))))) (el 11 rfl (el 115 rfl (el 311 rfl (ew 2011 rfl (.of (by rw [hcz]; rfl)) en)))) ?_
    rintro s hsn
    refine tri_sub (sl 0 rfl (sl 1 rfl (sl 5 rfl (sl 6 rfl (sl 8 rfl (sl 9 rfl (sl 20 rfl (sl 21 rfl sn)))))))) (el 11 rfl (el 115 rfl (el 311 rfl (el 2011 rfl en)))) ?_
    have hcl := @cR_len D L (yL D L a b.length) b.length s hsn
    have hyf := @yR_len D L a b.length b.length (Nat.le_refl _)
    refine tri_seq ?_
    refine tri_seq ?_
    refine tri_reg mixed hcx ?_ _ _
    refine mv rfl ?_
    refine cge rfl rfl rfl ?_
    refine ⟨by kernel_rfl, ?_⟩
    refine nx (sl 0 rfl (sl 1 rfl (sl 5 rfl (sl 6 rfl (sl 8 rfl (sl 9 rfl (sl 20 rfl (sl 21 rfl (sl 124 rfl sn))))))))) (el 11 rfl (el 115 rfl (el 311 rfl (el 2011 rfl en)))) ?_
    refine tri_if rfl (fun he => ?_) (fun he => ?_)
    · have hs2 : s < b.length := by omega
      have hcs : ∀ v, (List.set (cR D L (yL D L a b.length) b.length s) (b.length - (s + 1)) v).length = b.length := fun v => by rw [List.length_set]; exact hcl
      refine tri_skip ?_
      refine nx (sl 0 rfl (sl 1 rfl (sl 5 rfl (sl 6 rfl (sl 8 rfl (sl 9 rfl (sl 20 rfl (sl 21 rfl sn)))))))) (el 11 rfl (el 115 rfl (el 311 rfl (el 2011 rfl en)))) ?_
      refine tri_seq ?_
      refine tri_block ?_
      refine tri_seq ?_
      refine tri_reg mixed hcx ?_ _ _
      refine mv rfl ?_
      refine mv rfl ?_
      refine mv rfl ?_
      refine mv rfl ?_
      refine ixo rfl rfl rfl slQs (i := b.length - (s + 1)) ⟨by omega, by omega⟩ ?_
      refine lox (X := T.Q ((yL D L a b.length).getD (b.length - (s + 1)) 0) SN) (b.length - (s + 1)) rfl rfl tyQ ⟨rfl, rfl, by omega⟩ (p_q (yR_full (by omega))) ?_
      refine ixo rfl rfl rfl slQs (i := b.length - (s + 1)) ⟨by omega, by omega⟩ ?_
      refine so rfl rfl rfl (q_p (q' := cP D L (yL D L a b.length) (cB D L (yL D L a b.length) b.length s) (b.length - (s + 1)) 0) rfl (hs.cp s hs2 0 (Nat.zero_le _))) tyQ ⟨rfl, by omega⟩ ?_
      refine ⟨by kernel_rfl, ?_⟩
      refine nx (sl 0 rfl (sl 1 rfl (sl 5 rfl (sl 6 rfl (sl 8 rfl (sl 9 rfl (sl 20 rfl (sl 21 rfl sn)))))))) (el 11 rfl (el 115 rfl (el 311 rfl (el 2011 rfl en)))) ?_
      refine tri_seq ?_
      refine tri_reg mixed hcx ?_ _ _
      refine mv rfl ?_
      refine ad (((b.length - (s + 1) + 1 : Nat) : Int)) rfl rfl rfl (by omega) ?_
      refine asg rfl ?_
      refine ⟨by kernel_rfl, ?_⟩
      refine nx (sl 0 rfl (sl 1 rfl (sl 5 rfl (sl 6 rfl (sl 8 rfl (sl 9 rfl (sl 20 rfl (sl 21 rfl (sl 22 rfl sn))))))))) (el 11 rfl (el 115 rfl (el 311 rfl (el 2011 rfl en)))) ?_
      refine tri_block ?_
      refine tri_loop (ι := Nat) (fun q => [(0, T.l (cL (cZi k)) b), (1, T.l (cQi k) ts), (5, T.p 11 0), (6, T.p 115 0), (8, T.c (.int .i64 (b.length : Int))), (9, T.o 311), (20, T.o 2011), (21, T.c (.int .i64 ((b.length : Int) - 1 - (s : Int)))), (22, T.c (.int .i64 ((b.length - (s + 1) + 1 + q : Nat) : Int)))]) (fun q => [(11, some (Ent.box 43 [T.c (.bool false), T.c (.slice none 0 0), T.c (.bool false), T.c (.slice none 0 0)])), (115, some (Ent.box 26 [T.l (cZ K) D, T.l (cL (cZ K)) L])), (311, some (Ent.row (cQp SN) 43 (yR D L a b.length b.length))), (2011, some (Ent.row (cQp SN) 43 (List.set (cR D L (yL D L a b.length) b.length s) (b.length - (s + 1)) (nd (cP D L (yL D L a b.length) (cB D L (yL D L a b.length) b.length s) (b.length - (s + 1)) q)))))]) (fun q => s - q) (fun q => (q ≤ s)) 0 (Nat.zero_le _) (sl 0 rfl (sl 1 rfl (sl 5 rfl (sl 6 rfl (sl 8 rfl (sl 9 rfl (sl 20 rfl (sl 21 rfl (sl 22 rfl sn))))))))) (el 11 rfl (el 115 rfl (el 311 rfl (el 2011 rfl en)))) ?_
      rintro q hqq
      refine tri_sub (sl 0 rfl (sl 1 rfl (sl 5 rfl (sl 6 rfl (sl 8 rfl (sl 9 rfl (sl 20 rfl (sl 21 rfl (sl 22 rfl sn))))))))) (el 11 rfl (el 115 rfl (el 311 rfl (el 2011 rfl en)))) ?_
      have hcq := hcs (nd (cP D L (yL D L a b.length) (cB D L (yL D L a b.length) b.length s) (b.length - (s + 1)) q))
      refine tri_seq ?_
      refine tri_seq ?_
      refine tri_reg mixed hcx ?_ _ _
      refine mv rfl ?_
      refine mv rfl ?_
      refine clt rfl rfl rfl ?_
      refine ⟨by kernel_rfl, ?_⟩
      refine nx (sl 0 rfl (sl 1 rfl (sl 5 rfl (sl 6 rfl (sl 8 rfl (sl 9 rfl (sl 20 rfl (sl 21 rfl (sl 22 rfl (sl 138 rfl sn)))))))))) (el 11 rfl (el 115 rfl (el 311 rfl (el 2011 rfl en)))) ?_
      refine tri_if rfl (fun hf => ?_) (fun hf => ?_)
      · have hq2 : q < s := by omega
        refine tri_skip ?_
        refine nx (sl 0 rfl (sl 1 rfl (sl 5 rfl (sl 6 rfl (sl 8 rfl (sl 9 rfl (sl 20 rfl (sl 21 rfl (sl 22 rfl sn))))))))) (el 11 rfl (el 115 rfl (el 311 rfl (el 2011 rfl en)))) ?_
        refine tri_seq ?_
        refine tri_block ?_
        refine tri_seq ?_
        have hij : ((b.length : Int) - 1 - (s : Int)) = ((b.length - (s + 1) : Nat) : Int) := by omega
        rw [hij]
        refine tri_reg mixed hcx ?_ _ _
        refine ld rfl rfl tyG rfl ?_
        refine mv rfl ?_
        refine mv rfl ?_
        refine ca rfl (h := (g_Mu (k := 1048576) (by decide) (by omega) hG (i := b.length - (s + 1) + 1 + q) (j := b.length - (s + 1)) (by omega) (by omega))) (hn := ?_)
        refine mv rfl ?_
        refine ex rfl rfl ?_
        refine ex rfl rfl ?_
        refine nw 2817 zeQ ?_
        refine st rfl rfl rfl tyQ rfl ?_
        refine asg rfl ?_
        refine ⟨by kernel_rfl, ?_⟩
        refine nx (sl 0 rfl (sl 1 rfl (sl 5 rfl (sl 6 rfl (sl 8 rfl (sl 9 rfl (sl 20 rfl (sl 21 rfl (sl 22 rfl (sl 23 rfl sn)))))))))) (el 11 rfl (el 115 rfl (el 311 rfl (el 2011 rfl (el 2817 rfl en))))) ?_
        refine tri_seq ?_
        refine tri_reg mixed hcx ?_ _ _
        refine ld rfl rfl tyQ rfl ?_
        refine mv rfl ?_
        refine mv rfl ?_
        refine ixo rfl rfl rfl slQs (i := b.length - (s + 1) + 1 + q) ⟨by omega, by omega⟩ ?_
        refine lox (X := T.Q ((cB D L (yL D L a b.length) b.length s).getD q 0) SN) (b.length - (s + 1) + 1 + q) rfl rfl tyQ ⟨rfl, rfl, by omega⟩ (p_q (by rw [show (cQp SN).dflt = (0, 0) from rfl, set_ne (by omega), show b.length - (s + 1) + 1 + q = b.length - s + q by omega, cR_get hsn hq2])) ?_
        refine cb rfl (h := rv_Mul (by omega) (by omega)) (hn := ?_)
        refine mv rfl ?_
        refine ex rfl rfl ?_
        refine ex rfl rfl ?_
        refine nw 2919 zeQ ?_
        refine st rfl rfl rfl tyQ rfl ?_
        refine asg rfl ?_
        refine ⟨by kernel_rfl, ?_⟩
        refine nx (sl 0 rfl (sl 1 rfl (sl 5 rfl (sl 6 rfl (sl 8 rfl (sl 9 rfl (sl 20 rfl (sl 21 rfl (sl 22 rfl (sl 25 rfl sn)))))))))) (el 11 rfl (el 115 rfl (el 311 rfl (el 2011 rfl (el 2817 rfl (el 2919 rfl en)))))) ?_
        refine tri_reg mixed hcx ?_ _ _
        refine mv rfl ?_
        refine mv rfl ?_
        refine mv rfl ?_
        refine mv rfl ?_
        refine ixo rfl rfl rfl slQs (i := b.length - (s + 1)) ⟨by omega, by omega⟩ ?_
        refine lox (X := T.Q (cP D L (yL D L a b.length) (cB D L (yL D L a b.length) b.length s) (b.length - (s + 1)) q) SN) (b.length - (s + 1)) rfl rfl tyQ ⟨rfl, rfl, by omega⟩ (p_q (set_at (by omega))) ?_
        refine ld rfl rfl tyQ rfl ?_
        refine cb rfl (h := rv_Sub (by omega) (by omega)) (hn := ?_)
        refine mv rfl ?_
        refine ex rfl rfl ?_
        refine ex rfl rfl ?_
        refine ixo rfl rfl rfl slQs (i := b.length - (s + 1)) ⟨by omega, by omega⟩ ?_
        refine so rfl rfl rfl (q_p (q' := cP D L (yL D L a b.length) (cB D L (yL D L a b.length) b.length s) (b.length - (s + 1)) (q + 1)) rfl (hs.cp s hs2 (q + 1) (by omega))) tyQ ⟨rfl, by omega⟩ ?_
        refine ⟨by kernel_rfl, ?_⟩
        refine pn_blk ?_
        refine nx (sl 0 rfl (sl 1 rfl (sl 5 rfl (sl 6 rfl (sl 8 rfl (sl 9 rfl (sl 20 rfl (sl 21 rfl (sl 22 rfl sn))))))))) (el 11 rfl (el 115 rfl (el 311 rfl (el 2011 rfl (el 2817 rfl (el 2919 rfl en)))))) ?_
        refine tri_reg mixed hcx ?_ _ _
        refine mv rfl ?_
        refine ad (((b.length - (s + 1) + 1 + (q + 1) : Nat) : Int)) rfl rfl rfl (by omega) ?_
        refine asg rfl ?_
        refine ⟨by kernel_rfl, ?_⟩
        exact pn_back (q + 1) (by first | omega | (dsimp only; omega)) (by omega) (sl 0 rfl (sl 1 rfl (sl 5 rfl (sl 6 rfl (sl 8 rfl (sl 9 rfl (sl 20 rfl (sl 21 rfl (sw 22 rfl (ci (by omega)) sn))))))))) (el 11 rfl (el 115 rfl (el 311 rfl (ew 2011 rfl (.of (by rw [List.set_set])) en))))
      · refine tri_exit ?_
        repeat (first | refine pn_then ?_ | refine pn_oth (by decide) ?_)
        refine pn_ex ?_
        have hqs : q = s := by omega
        refine pn_blk ?_
        refine nx (sl 0 rfl (sl 1 rfl (sl 5 rfl (sl 6 rfl (sl 8 rfl (sl 9 rfl (sl 20 rfl (sl 21 rfl sn)))))))) (el 11 rfl (el 115 rfl (el 311 rfl (el 2011 rfl en)))) ?_
        refine tri_reg mixed hcx ?_ _ _
        refine mv rfl ?_
        refine sb (((b.length : Int) - 1 - ((s + 1 : Nat) : Int))) rfl rfl rfl (by omega) ?_
        refine asg rfl ?_
        refine ⟨by kernel_rfl, ?_⟩
        exact pn_back (s + 1) (by first | omega | (dsimp only; omega)) (by omega) (sl 0 rfl (sl 1 rfl (sl 5 rfl (sl 6 rfl (sl 8 rfl (sl 9 rfl (sl 20 rfl (sw 21 rfl (ci (by omega)) sn)))))))) (el 11 rfl (el 115 rfl (el 311 rfl (ew 2011 rfl (.of (by rw [hqs, cR_next hs2])) en))))
    · refine tri_exit ?_
      repeat (first | refine pn_then ?_ | refine pn_oth (by decide) ?_)
      refine pn_ex ?_
      obtain rfl : s = b.length := by omega
      refine nx (sl 0 rfl (sl 1 rfl (sl 5 rfl (sl 8 rfl (sl 20 rfl sn))))) (el 11 rfl (el 115 rfl (el 311 rfl (el 2011 rfl en)))) ?_
      refine tri_seq ?_
      refine tri_fz 2011 rfl ?_
      refine tri_rd 20 2011 rfl rfl ?_
      refine tri_as 20 (Z := T.l (cQp SN) ((cB D L (yL D L a b.length) b.length b.length).map nd)) rfl (.of (by rw [cR_full])) ?_
      refine tri_reg mixed hcx ?_ _ _
      refine ca rfl (h := zi_Of (by omega) (by omega)) (hn := ?_)
      refine ca rfl (h := rat_Of (by omega)) (hn := ?_)
      refine nw 3112 zeQ ?_
      refine st rfl rfl rfl tyQ rfl ?_
      refine ⟨by kernel_rfl, ?_⟩
      refine nx (sl 0 rfl (sl 1 rfl (sl 5 rfl (sl 8 rfl (sl 20 rfl (sl 27 rfl sn)))))) (el 11 rfl (el 115 rfl (el 311 rfl (el 3112 rfl en)))) ?_
      refine tri_seq ?_
      refine tri_seq ?_
      refine tri_reg mixed hcx ?_ _ _
      refine mv rfl ?_
      refine ln slQs rfl ?_
      refine mv rfl ?_
      refine ⟨by kernel_rfl, ?_⟩
      refine nx (sl 0 rfl (sl 1 rfl (sl 5 rfl (sl 8 rfl (sl 20 rfl (sl 27 rfl (sl 172 rfl (sl 173 rfl sn)))))))) (el 11 rfl (el 115 rfl (el 311 rfl (el 3112 rfl en)))) ?_
      refine tri_block ?_
      refine tri_loop (ι := Nat) (fun e => [(0, T.l (cL (cZi k)) b), (1, T.l (cQi k) ts), (5, T.p 11 0), (8, T.c (.int .i64 (b.length : Int))), (20, T.l (cQp SN) ((cB D L (yL D L a b.length) b.length b.length).map nd)), (27, T.p 3112 0), (172, T.c (.int .i64 (ts.length : Int))), (173, T.c (.int .i64 (e : Int)))]) (fun e => [(11, some (Ent.box 43 [T.c (.bool false), T.c (.slice none 0 0), T.c (.bool false), T.c (.slice none 0 0)])), (3112, some (Ent.box 43 [T.Q (hq b (cB D L (yL D L a b.length) b.length b.length) ts b.length e) SN]))]) (fun e => ts.length - e) (fun e => (e ≤ ts.length)) 0 (Nat.zero_le _) (sl 0 rfl (sl 1 rfl (sl 5 rfl (sl 8 rfl (sl 20 rfl (sl 27 rfl (sl 172 rfl (sl 173 rfl sn)))))))) (el 11 rfl (ew 3112 rfl (box_pack1 (q_qb (by rfl) (hs.h 0 (Nat.zero_le _)))) en)) ?_
      rintro e hee
      refine tri_sub (sl 0 rfl (sl 1 rfl (sl 5 rfl (sl 8 rfl (sl 20 rfl (sl 27 rfl (sl 172 rfl (sl 173 rfl sn)))))))) (el 11 rfl (el 3112 rfl en)) ?_
      have hcl2 : ((cB D L (yL D L a b.length) b.length b.length).map nd).length = b.length := by rw [List.length_map, cB_len]
      refine tri_seq ?_
      refine tri_reg mixed hcx ?_ _ _
      refine clt rfl rfl rfl ?_
      refine ⟨by kernel_rfl, ?_⟩
      refine nx (sl 0 rfl (sl 1 rfl (sl 5 rfl (sl 8 rfl (sl 20 rfl (sl 27 rfl (sl 172 rfl (sl 173 rfl (sl 174 rfl sn))))))))) (el 11 rfl (el 3112 rfl en)) ?_
      refine tri_seq ?_
      refine tri_if rfl (fun hg => ?_) (fun hg => ?_)
      · have hte := htp e (by omega)
        have he2 : e < m := by omega
        refine tri_skip ?_
        refine nx (sl 0 rfl (sl 1 rfl (sl 5 rfl (sl 8 rfl (sl 20 rfl (sl 27 rfl (sl 172 rfl (sl 173 rfl sn)))))))) (el 11 rfl (el 3112 rfl en)) ?_
        refine tri_seq ?_
        refine tri_block ?_
        refine tri_seq ?_
        refine tri_reg mixed hcx ?_ _ _
        refine mv rfl ?_
        refine asg rfl ?_
        refine ⟨by kernel_rfl, ?_⟩
        refine nx (sl 0 rfl (sl 1 rfl (sl 5 rfl (sl 8 rfl (sl 20 rfl (sl 27 rfl (sl 28 rfl (sl 172 rfl (sl 173 rfl sn))))))))) (el 11 rfl (el 3112 rfl en)) ?_
        refine tri_seq ?_
        refine tri_reg mixed hcx ?_ _ _
        refine mv rfl ?_
        refine mv rfl ?_
        refine ix rfl rfl slQs ⟨rfl, by omega⟩ ?_
        refine lfx (X := T.V (lq b (cB D L (yL D L a b.length) b.length b.length) (tq ts e) e 0) SN) rfl tyQ (qi_v hte rfl (by show k ≤ 2147483648; omega)) ?_
        refine nw 3514 zeQ ?_
        refine st rfl rfl rfl tyQ rfl ?_
        refine ⟨by kernel_rfl, ?_⟩
        refine nx (sl 0 rfl (sl 1 rfl (sl 5 rfl (sl 8 rfl (sl 20 rfl (sl 27 rfl (sl 28 rfl (sl 29 rfl (sl 172 rfl (sl 173 rfl sn)))))))))) (el 11 rfl (el 3112 rfl (el 3514 rfl en))) ?_
        refine tri_seq ?_
        refine tri_seq ?_
        refine tri_reg mixed hcx ?_ _ _
        refine mv rfl ?_
        refine mv rfl ?_
        refine ⟨by kernel_rfl, ?_⟩
        refine nx (sl 0 rfl (sl 1 rfl (sl 5 rfl (sl 8 rfl (sl 20 rfl (sl 27 rfl (sl 28 rfl (sl 29 rfl (sl 172 rfl (sl 173 rfl (sl 180 rfl (sl 181 rfl sn)))))))))))) (el 11 rfl (el 3112 rfl (el 3514 rfl en))) ?_
        refine tri_block ?_
        refine tri_loop (ι := Nat) (fun x => [(0, T.l (cL (cZi k)) b), (1, T.l (cQi k) ts), (5, T.p 11 0), (8, T.c (.int .i64 (b.length : Int))), (20, T.l (cQp SN) ((cB D L (yL D L a b.length) b.length b.length).map nd)), (27, T.p 3112 0), (28, T.c (.int .i64 (e : Int))), (29, T.p 3514 0), (172, T.c (.int .i64 (ts.length : Int))), (173, T.c (.int .i64 (e : Int))), (180, T.c (.int .i64 (b.length : Int))), (181, T.c (.int .i64 (x : Int)))]) (fun x => [(11, some (Ent.box 43 [T.c (.bool false), T.c (.slice none 0 0), T.c (.bool false), T.c (.slice none 0 0)])), (3112, some (Ent.box 43 [T.Q (hq b (cB D L (yL D L a b.length) b.length b.length) ts b.length e) SN])), (3514, some (Ent.box 43 [T.V (lq b (cB D L (yL D L a b.length) b.length b.length) (tq ts e) e x) SN]))]) (fun x => b.length - x) (fun x => (x ≤ b.length)) 0 (Nat.zero_le _) (sl 0 rfl (sl 1 rfl (sl 5 rfl (sl 8 rfl (sl 20 rfl (sl 27 rfl (sl 28 rfl (sl 29 rfl (sl 172 rfl (sl 173 rfl (sl 180 rfl (sl 181 rfl sn)))))))))))) (el 11 rfl (el 3112 rfl (el 3514 rfl en))) ?_
        rintro x hx
        refine tri_sub (sl 0 rfl (sl 1 rfl (sl 5 rfl (sl 8 rfl (sl 20 rfl (sl 27 rfl (sl 28 rfl (sl 29 rfl (sl 172 rfl (sl 173 rfl (sl 180 rfl (sl 181 rfl sn)))))))))))) (el 11 rfl (el 3112 rfl (el 3514 rfl en))) ?_
        refine tri_seq ?_
        refine tri_reg mixed hcx ?_ _ _
        refine clt rfl rfl rfl ?_
        refine ⟨by kernel_rfl, ?_⟩
        refine nx (sl 0 rfl (sl 1 rfl (sl 5 rfl (sl 8 rfl (sl 20 rfl (sl 27 rfl (sl 28 rfl (sl 29 rfl (sl 172 rfl (sl 173 rfl (sl 180 rfl (sl 181 rfl (sl 182 rfl sn))))))))))))) (el 11 rfl (el 3112 rfl (el 3514 rfl en))) ?_
        refine tri_seq ?_
        refine tri_if rfl (fun hh => ?_) (fun hh => ?_)
        · have hmx : (b.getD x (cL (cZi k)).dflt).length = m := hm x (by omega)
          refine tri_skip ?_
          refine nx (sl 0 rfl (sl 1 rfl (sl 5 rfl (sl 8 rfl (sl 20 rfl (sl 27 rfl (sl 28 rfl (sl 29 rfl (sl 172 rfl (sl 173 rfl (sl 180 rfl (sl 181 rfl sn)))))))))))) (el 11 rfl (el 3112 rfl (el 3514 rfl en))) ?_
          refine tri_seq ?_
          refine tri_block ?_
          refine tri_seq ?_
          refine tri_reg mixed hcx ?_ _ _
          refine mv rfl ?_
          refine asg rfl ?_
          refine ⟨by kernel_rfl, ?_⟩
          refine nx (sl 0 rfl (sl 1 rfl (sl 5 rfl (sl 8 rfl (sl 20 rfl (sl 27 rfl (sl 28 rfl (sl 29 rfl (sl 30 rfl (sl 172 rfl (sl 173 rfl (sl 180 rfl (sl 181 rfl sn))))))))))))) (el 11 rfl (el 3112 rfl (el 3514 rfl en))) ?_
          refine tri_seq ?_
          refine tri_reg mixed hcx ?_ _ _
          refine mv rfl ?_
          refine mv rfl ?_
          refine ix rfl rfl slQs ⟨rfl, by omega⟩ ?_
          refine lfx (X := T.Q ((cB D L (yL D L a b.length) b.length b.length).getD x 0) SN) rfl tyQ (p_q (map_nd (by rw [cB_len]; omega))) ?_
          refine mv rfl ?_
          refine mv rfl ?_
          refine ix rfl rfl slZss ⟨rfl, by omega⟩ ?_
          refine lf rfl tyZs ?_
          refine mv rfl ?_
          refine ix rfl rfl slZs ⟨rfl, by omega⟩ ?_
          refine lf rfl tyZ ?_
          refine ca rfl (h := rat_Of (by omega)) (hn := ?_)
          refine cb rfl (h := rv_Mul (by omega) (by omega)) (hn := ?_)
          refine mv rfl ?_
          refine ex rfl rfl ?_
          refine ex rfl rfl ?_
          refine nw 3926 zeQ ?_
          refine st rfl rfl rfl tyQ rfl ?_
          refine asg rfl ?_
          refine ⟨by kernel_rfl, ?_⟩
          refine nx (sl 0 rfl (sl 1 rfl (sl 5 rfl (sl 8 rfl (sl 20 rfl (sl 27 rfl (sl 28 rfl (sl 29 rfl (sl 31 rfl (sl 172 rfl (sl 173 rfl (sl 180 rfl (sl 181 rfl sn))))))))))))) (el 11 rfl (el 3112 rfl (el 3514 rfl (el 3926 rfl en)))) ?_
          refine tri_reg mixed hcx ?_ _ _
          refine ld rfl rfl tyQ rfl ?_
          refine ld rfl rfl tyQ rfl ?_
          refine cb rfl (h := rv_Sub (by omega) (by omega)) (hn := ?_)
          refine mv rfl ?_
          refine ex rfl rfl ?_
          refine ex rfl rfl ?_
          refine st rfl rfl rfl tyQ rfl ?_
          refine ⟨by kernel_rfl, ?_⟩
          refine pn_blk ?_
          refine nx (sl 0 rfl (sl 1 rfl (sl 5 rfl (sl 8 rfl (sl 20 rfl (sl 27 rfl (sl 28 rfl (sl 29 rfl (sl 172 rfl (sl 173 rfl (sl 180 rfl (sl 181 rfl sn)))))))))))) (el 11 rfl (el 3112 rfl (el 3514 rfl (el 3926 rfl en)))) ?_
          refine tri_reg mixed hcx ?_ _ _
          refine ad (((x + 1 : Nat) : Int)) rfl rfl rfl (by omega) ?_
          refine mv rfl ?_
          refine ⟨by kernel_rfl, ?_⟩
          exact pn_back (x + 1) (by first | omega | (dsimp only; omega)) (by omega) (sl 0 rfl (sl 1 rfl (sl 5 rfl (sl 8 rfl (sl 20 rfl (sl 27 rfl (sl 28 rfl (sl 29 rfl (sl 172 rfl (sl 173 rfl (sl 180 rfl (sl 181 rfl sn)))))))))))) (el 11 rfl (el 3112 rfl (ew 3514 rfl (box_pack1 (q_vq rfl (hs.l e he2 (x + 1) (by omega)))) en)))
        · refine tri_exit ?_
          repeat (first | refine pn_then ?_ | refine pn_oth (by decide) ?_)
          refine pn_ex ?_
          have hxn : x = b.length := by omega
          refine nx (sl 0 rfl (sl 1 rfl (sl 5 rfl (sl 8 rfl (sl 20 rfl (sl 27 rfl (sl 29 rfl (sl 172 rfl (sl 173 rfl sn))))))))) (el 11 rfl (el 3112 rfl (el 3514 rfl en))) ?_
          refine tri_seq ?_
          refine tri_reg mixed hcx ?_ _ _
          refine ld rfl rfl tyQ rfl ?_
          refine ld rfl rfl tyQ rfl ?_
          refine cb rfl (h := rv_Mul (by omega) (by omega)) (hn := ?_)
          refine mv rfl ?_
          refine ex rfl rfl ?_
          refine ex rfl rfl ?_
          refine st rfl rfl rfl tyQ rfl ?_
          refine ⟨by kernel_rfl, ?_⟩
          refine nx (sl 0 rfl (sl 1 rfl (sl 5 rfl (sl 8 rfl (sl 20 rfl (sl 27 rfl (sl 29 rfl (sl 172 rfl (sl 173 rfl sn))))))))) (el 11 rfl (el 3112 rfl (el 3514 rfl en))) ?_
          refine tri_reg mixed hcx ?_ _ _
          refine ld rfl rfl tyQ rfl ?_
          refine ld rfl rfl tyQ rfl ?_
          refine cb rfl (h := rv_Add (by omega) (by omega)) (hn := ?_)
          refine mv rfl ?_
          refine ex rfl rfl ?_
          refine ex rfl rfl ?_
          refine st rfl rfl rfl tyQ rfl ?_
          refine ⟨by kernel_rfl, ?_⟩
          refine pn_blk ?_
          refine nx (sl 0 rfl (sl 1 rfl (sl 5 rfl (sl 8 rfl (sl 20 rfl (sl 27 rfl (sl 172 rfl (sl 173 rfl sn)))))))) (el 11 rfl (el 3112 rfl (el 3514 rfl en))) ?_
          refine tri_reg mixed hcx ?_ _ _
          refine ad (((e + 1 : Nat) : Int)) rfl rfl rfl (by omega) ?_
          refine mv rfl ?_
          refine ⟨by kernel_rfl, ?_⟩
          exact pn_back (e + 1) (by first | omega | (dsimp only; omega)) (by omega) (sl 0 rfl (sl 1 rfl (sl 5 rfl (sl 8 rfl (sl 20 rfl (sl 27 rfl (sl 172 rfl (sl 173 rfl sn)))))))) (el 11 rfl (ew 3112 rfl (box_pack1 (q_qb (by rw [hxn]; rfl) (hs.h (e + 1) (by omega)))) en))
      · refine tri_exit ?_
        repeat (first | refine pn_then ?_ | refine pn_oth (by decide) ?_)
        refine pn_ex ?_
        have hem : e = m := by omega
        refine nx (sl 5 rfl (sl 20 rfl (sl 27 rfl sn))) (el 11 rfl (el 3112 rfl en)) ?_
        refine tri_seq ?_
        refine tri_reg mixed hcx ?_ _ _
        refine mv rfl ?_
        refine ld rfl rfl tyQ rfl ?_
        refine asg rfl ?_
        refine st rfl rfl rfl tyQ rfl ?_
        refine ⟨by kernel_rfl, ?_⟩
        refine nx (sl 4 rfl (sl 5 rfl sn)) (el 11 rfl (el 3112 rfl en)) ?_
        refine tri_ret ?_
        repeat (first | refine pn_thenr ?_ | refine pn_blkr ?_)
        exact ret2 hcx rfl (rv_tmp rfl) (rv_cell (c' := cx) (n := 0) rfl rfl tyQ rfl) (tup_le ⟨.refl _, q_eq (by rw [hem]) (Nat.le_refl _), trivial⟩) en
end Go.Proofs.Ytmfgnbchehnpjaa.V
