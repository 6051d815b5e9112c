/- What is said of rows, but for dependence. -/
import Derived.Test.YtmfgnbchehnpjaaGreatM05
set_option linter.unusedVariables false
set_option linter.unusedSimpArgs false
set_option maxRecDepth 100000
namespace Go.Proofs.YtmfgnbchehnpjaaGreat.V
open Go.RowKit Mt Nml
/-- A truth value, whichever. -/
def T.tb : T := T.ex 1 false (fun _ : Bool => True) (fun s => T.c (.bool s)) (fun _ => ⟨rfl, rfl, rfl⟩)
theorem tb_of (s : Bool) : (T.c (.bool s)).le T.tb := fun β u v h => ⟨s, trivial, h⟩
theorem iv_abs {s : Bool} {xs : List Int} {z : Int} (h : Lim xs) (hz : z = iv s (val xs)) : val xs = ((z.natAbs : Nat) : Int) := by
  have := val_nonneg h
  subst hz
  unfold iv
  split <;> omega
theorem zi_parts {z : Int} {k : Nat} : (T.Zi z k).le (T.st [T.tb, T.L z.natAbs k]) := fun β u v ⟨i, ⟨h1, h2, h3⟩, cs, e, hc⟩ => ⟨cs, e, cells_le (l := [T.c (.bool i.1), T.l cU i.2]) hc ⟨tb_of i.1, l_L h1 (iv_abs h1 h2) h3, trivial⟩ rfl⟩
instance (z : Int) (k : Nat) : Sp (T.Zi z k) [T.tb, T.L z.natAbs k] := ⟨zi_parts⟩
instance (z : Int) (k : Nat) : Sp ((cZi k).X z) [T.tb, T.L z.natAbs k] := ⟨zi_parts⟩
/-- Rows that are too large: q, are the bits asked? -/
def BigB (b : List (List Int)) (q : Bool) : Prop := 12 < b.length ∨ (q = true ∧ 256 < matB b b.length) ∨ ∃ i, i < b.length ∧ 12 < (b.getD i []).length
/-- Rows of unlike lengths. -/
def BadB (b : List (List Int)) : Prop := ∃ i, i < b.length ∧ (b.getD i []).length ≠ (b.getD 0 []).length
/-- What is said of rows, but for dependence. -/
structure ShR (b : List (List Int)) (q : Bool) (r : Int) : Prop where
  big : BigB b q → r = 40
  nil : ¬ BigB b q → b.length = 0 → r = 41
  bad : ¬ BigB b q → b.length ≠ 0 → BadB b → r = 8
  ok : ¬ BigB b q → b.length ≠ 0 → ¬ BadB b → r = 0
theorem ShR.ex (b : List (List Int)) (q : Bool) : ∃ r, ShR b q r := by
  by_cases h1 : BigB b q
  · exact ⟨40, fun _ => rfl, fun h => absurd h1 h, fun h => absurd h1 h, fun h => absurd h1 h⟩
  · by_cases h2 : b.length = 0
    · exact ⟨41, fun h => absurd h h1, fun _ _ => rfl, fun _ h => absurd h2 h, fun _ h => absurd h2 h⟩
    · by_cases h3 : BadB b
      · exact ⟨8, fun h => absurd h h1, fun _ h => absurd h h2, fun _ _ _ => rfl, fun _ _ h => absurd h3 h⟩
      · exact ⟨0, fun h => absurd h h1, fun _ h => absurd h h2, fun _ _ h => absurd h h3, fun _ _ _ => rfl⟩
theorem mxB_le {l : List Int} {a N : Nat} (ha : a ≤ N) : ∀ {n : Nat}, (∀ k, k < n → nbits (l.getD k 0).natAbs ≤ N) → mxB l a n ≤ N
  | 0, _ => ha
  | n + 1, h => Nat.max_le.2 ⟨mxB_le ha fun k hk => h k (by omega), h n (by omega)⟩
theorem mxB_ge {l : List Int} {a : Nat} : ∀ {n : Nat}, a ≤ mxB l a n
  | 0 => Nat.le_refl _
  | n + 1 => Nat.le_trans mxB_ge (Nat.le_max_left _ _)
theorem mxB_at {l : List Int} {a : Nat} : ∀ {n k : Nat}, k < n → nbits (l.getD k 0).natAbs ≤ mxB l a n
  | n + 1, k, h => by
    rcases Nat.lt_or_eq_of_le (Nat.le_of_lt_succ h) with h1 | h1
    · exact Nat.le_trans (mxB_at h1) (Nat.le_max_left _ _)
    · subst h1; exact Nat.le_max_right _ _
theorem matB_le {b : List (List Int)} {N : Nat} : ∀ {n : Nat}, (∀ i, i < n → ∀ k, k < (b.getD i []).length → nbits ((b.getD i []).getD k 0).natAbs ≤ N) → matB b n ≤ N
  | 0, _ => Nat.zero_le _
  | n + 1, h => mxB_le (matB_le fun i hi => h i (by omega)) (h n (by omega))
theorem matB_at {b : List (List Int)} : ∀ {n i k : Nat}, i < n → k < (b.getD i []).length → nbits ((b.getD i []).getD k 0).natAbs ≤ matB b n
  | n + 1, i, k, hi, hk => by
    rcases Nat.lt_or_eq_of_le (Nat.le_of_lt_succ hi) with h1 | h1
    · exact Nat.le_trans (matB_at h1 hk) mxB_ge
    · subst h1; exact mxB_at hk
/-- Is it so far? -/
def BigU (b : List (List Int)) (q : Bool) (i : Nat) : Prop := 12 < b.length ∨ (q = true ∧ 256 < matB b b.length) ∨ ∃ j, j < i ∧ 12 < (b.getD j []).length
theorem bigU_zero {b : List (List Int)} {q p : Bool} (h : p = true ↔ (12 < b.length ∨ (q = true ∧ 256 < matB b b.length))) : p = true ↔ BigU b q 0 := by
  rw [h]
  refine ⟨fun h => ?_, fun h => ?_⟩
  · rcases h with h | h
    · exact .inl h
    · exact .inr (.inl h)
  · rcases h with h | h | ⟨j, hj, _⟩
    · exact .inl h
    · exact .inr h
    · omega
theorem bigU_t {b : List (List Int)} {q : Bool} {i : Nat} (h : BigU b q i) : (true = true) ↔ BigU b q (i + 1) := ⟨fun _ => by
  rcases h with h | h | ⟨j, hj, h⟩
  · exact .inl h
  · exact .inr (.inl h)
  · exact .inr (.inr ⟨j, by omega, h⟩), fun _ => rfl⟩
theorem bigU_n {b : List (List Int)} {q : Bool} {i : Nat} (h : 12 < (b.getD i []).length) : (true = true) ↔ BigU b q (i + 1) := ⟨fun _ => .inr (.inr ⟨i, by omega, h⟩), fun _ => rfl⟩
theorem bigU_f {b : List (List Int)} {q : Bool} {i : Nat} (h : ¬ BigU b q i) (h2 : ¬ 12 < (b.getD i []).length) : (false = true) ↔ BigU b q (i + 1) := ⟨fun h => (by cases h), fun k0 => absurd k0 (by
  rintro (k | k | ⟨j, hj, k⟩)
  · exact h (.inl k)
  · exact h (.inr (.inl k))
  · rcases Nat.lt_or_eq_of_le (Nat.le_of_lt_succ hj) with h1 | h1
    · exact h (.inr (.inr ⟨j, h1, k⟩))
    · rw [h1] at k; exact h2 k)⟩
theorem bad_of {b : List (List Int)} (h : BadB b) : ∃ i, i < b.length ∧ (b.getD i []).length ≠ (b.getD 0 []).length ∧ ∀ j, j < i → (b.getD j []).length = (b.getD 0 []).length := by
  obtain ⟨i, ⟨h1, h2⟩, h3⟩ := least (fun i => i < b.length ∧ (b.getD i []).length ≠ (b.getD 0 []).length) h
  refine ⟨i, h1, h2, fun j hj => ?_⟩
  by_cases e : (b.getD j []).length = (b.getD 0 []).length
  · exact e
  · have := h3 j ⟨by omega, e⟩; omega

theorem mat_Shape_bad {b : List (List Int)} {k : Nat} (h0 : 0 < b.length) (hb : b.length ≤ 12) (h : BadB b) (hr : ∀ i, i < b.length → (b.getD i []).length ≤ 12) : Fn Tryz.prog 77 [T.l (cL (cZi k)) b] [] [] [] (T.tup [T.c (.int .i64 0), T.c (.int .i64 0), T.c (.int .i64 8)]) := by
  refine fn_of Tryz.func77 rfl (by show 1 ≤ 30; decide) fun cx hcx => ?_
  refine tri_sub (sl 0 rfl sn) en ?_
  obtain ⟨w, hw1, hw2, hw3⟩ := bad_of h
  have hm0 : (b.getD 0 (cL (cZi k)).dflt).length ≤ 12 := hr 0 h0
  refine tri_seq ?_
  refine tri_reg mixed hcx ?_ _ _
  refine asg rfl ?_
  refine asg rfl ?_
  refine asg rfl ?_
  refine ⟨by kernel_rfl, ?_⟩
  refine nx (sl 0 rfl sn) en ?_
  refine tri_seq ?_
  refine tri_seq ?_
  refine tri_reg mixed hcx ?_ _ _
  refine mv rfl ?_
  refine ln slZss rfl ?_
  refine ceq rfl rfl (decide_eq_false (by omega)) ?_
  refine ⟨by kernel_rfl, ?_⟩
  refine nx (sl 0 rfl (sl 9 rfl sn)) en ?_
  refine tri_false rfl rfl ?_
  refine tri_skip ?_
  refine nx (sl 0 rfl sn) en ?_
  refine tri_seq ?_
  refine tri_seq ?_
  refine tri_reg mixed hcx ?_ _ _
  refine mv rfl ?_
  refine ln slZss rfl ?_
  refine mv rfl ?_
  refine ⟨by kernel_rfl, ?_⟩
  refine nx (sl 0 rfl (sl 10 rfl (sl 11 rfl (sl 12 rfl sn)))) en ?_
  refine tri_block ?_
  refine tri_loop (ι := Nat) (fun i => [(0, T.l (cL (cZi k)) b), (10, T.l (cL (cZi k)) b), (11, T.c (.int .i64 (b.length : Int))), (12, T.c (.int .i64 (i : Int)))]) (fun i => []) (fun i => b.length - i) (fun i => (i ≤ w)) 0 (Nat.zero_le _) (sl 0 rfl (sl 10 rfl (sl 11 rfl (sl 12 rfl sn)))) en ?_
  rintro i hi
  refine tri_sub (sl 0 rfl (sl 10 rfl (sl 11 rfl (sl 12 rfl sn)))) en ?_
  refine tri_seq ?_
  refine tri_reg mixed hcx ?_ _ _
  refine clt rfl rfl rfl ?_
  refine ⟨by kernel_rfl, ?_⟩
  refine nx (sl 0 rfl (sl 10 rfl (sl 11 rfl (sl 12 rfl (sl 13 rfl sn))))) en ?_
  refine tri_seq ?_
  refine tri_if rfl (fun hc => ?_) (fun hc => ?_)
  · have hmi : (b.getD i (cL (cZi k)).dflt).length ≤ 12 := hr i (by omega)
    refine tri_skip ?_
    refine nx (sl 0 rfl (sl 10 rfl (sl 11 rfl (sl 12 rfl sn)))) en ?_
    refine tri_seq ?_
    refine tri_block ?_
    refine tri_seq ?_
    refine tri_reg mixed hcx ?_ _ _
    refine ix rfl rfl slZss ⟨rfl, by omega⟩ ?_
    refine lf rfl tyZs ?_
    refine asg rfl ?_
    refine ⟨by kernel_rfl, ?_⟩
    refine nx (sl 0 rfl (sl 6 rfl (sl 10 rfl (sl 11 rfl (sl 12 rfl sn))))) en ?_
    refine tri_seq ?_
    rcases Nat.lt_or_eq_of_le hi with h9 | h9
    · have hme : (b.getD i (cL (cZi k)).dflt).length = (b.getD 0 (cL (cZi k)).dflt).length := hw3 i h9
      refine tri_reg mixed hcx ?_ _ _
      refine mv rfl ?_
      refine ln slZs rfl ?_
      refine mv rfl ?_
      refine ix rfl rfl slZss ⟨(rfl : _ = ((0 : Nat) : Int)), by omega⟩ ?_
      refine lf rfl tyZs ?_
      refine ln slZs rfl ?_
      refine cne rfl rfl (decide_eq_false (by omega)) ?_
      refine ⟨by kernel_rfl, ?_⟩
      refine nx (sl 0 rfl (sl 10 rfl (sl 11 rfl (sl 12 rfl (sl 22 rfl sn))))) en ?_
      refine tri_false rfl rfl ?_
      refine tri_skip ?_
      refine pn_blk ?_
      refine nx (sl 0 rfl (sl 10 rfl (sl 11 rfl (sl 12 rfl sn)))) en ?_
      refine tri_reg mixed hcx ?_ _ _
      refine ad (((i + 1 : Nat) : Int)) rfl rfl rfl (by omega) ?_
      refine mv rfl ?_
      refine ⟨by kernel_rfl, ?_⟩
      exact pn_back (i + 1) (by first | omega | (dsimp only; omega)) (by omega) (sl 0 rfl (sl 10 rfl (sl 11 rfl (sl 12 rfl sn)))) en
    · subst h9
      have hmn : (b.getD i (cL (cZi k)).dflt).length ≠ (b.getD 0 (cL (cZi k)).dflt).length := hw2
      refine tri_reg mixed hcx ?_ _ _
      refine mv rfl ?_
      refine ln slZs rfl ?_
      refine mv rfl ?_
      refine ix rfl rfl slZss ⟨(rfl : _ = ((0 : Nat) : Int)), by omega⟩ ?_
      refine lf rfl tyZs ?_
      refine ln slZs rfl ?_
      refine cne rfl rfl (decide_eq_true (by omega)) ?_
      refine ⟨by kernel_rfl, ?_⟩
      refine nx (sl 0 rfl (sl 10 rfl (sl 11 rfl (sl 12 rfl (sl 22 rfl sn))))) en ?_
      refine tri_true rfl rfl ?_
      refine tri_seq ?_
      refine tri_reg mixed hcx ?_ _ _
      refine asg rfl ?_
      refine asg rfl ?_
      refine asg rfl ?_
      refine ⟨by kernel_rfl, ?_⟩
      refine nx (sl 2 rfl (sl 3 rfl (sl 4 rfl sn))) en ?_
      refine tri_ret ?_
      repeat (first | refine pn_thenr ?_ | refine pn_blkr ?_)
      exact ret3 hcx rfl (rv_tmp rfl) (rv_tmp rfl) (rv_tmp rfl) (.refl _) en
  · refine tri_exit ?_
    repeat (first | refine pn_then ?_ | refine pn_oth (by decide) ?_)
    refine pn_ex ?_
    exfalso
    omega

theorem g_shaped_t {b : List (List Int)} {k : Nat} {r : Int} (hk : k ≤ 1048576) (hbl : b.length ≤ 1048576) (hrr : ∀ i, i < b.length → (b.getD i []).length ≤ 1048576) (hR : ShR b true r) : Fn Tryz.prog 48 [T.l (cL (cZi k)) b, T.c (.bool true)] [] [] [] (T.c (.int .i64 r)) := by
  refine fn_of Tryz.func48 rfl (by show 2 ≤ 46; decide) fun cx hcx => ?_
  refine tri_sub (sl 0 rfl (sl 1 rfl sn)) en ?_
  refine tri_seq ?_
  refine tri_reg mixed hcx ?_ _ _
  refine asg rfl ?_
  refine ⟨by kernel_rfl, ?_⟩
  refine nx (sl 0 rfl (sl 1 rfl sn)) en ?_
  refine tri_seq ?_
  rcases Nat.lt_or_ge 12 b.length with h1 | h1; rotate_left; rcases Nat.lt_or_ge 256 (matB b b.length) with h2 | h2; rotate_left; rotate_left
  · refine tri_reg mixed hcx ?_ _ _
    refine mv rfl ?_
    refine ln slZss rfl ?_
    refine cgt rfl rfl (decide_eq_true (by omega)) ?_
    refine mv rfl ?_
    refine j_off rfl rfl rfl rfl ?_
    refine j_off rfl rfl rfl rfl ?_
    refine j_ofu rfl rfl rfl ?_
    refine j_ofu rfl rfl rfl ?_
    refine j_ofu rfl rfl rfl ?_
    refine j_off rfl rfl rfl rfl ?_
    refine pk rfl rfl ?_
    refine asg rfl ?_
    refine ⟨by kernel_rfl, ?_⟩
    refine nx (sl 0 rfl (sl 5 rfl sn)) en ?_
    refine tri_seq ?_
    refine tri_seq ?_
    refine tri_reg mixed hcx ?_ _ _
    refine mv rfl ?_
    refine ln slZss rfl ?_
    refine mv rfl ?_
    refine ⟨by kernel_rfl, ?_⟩
    refine nx (sl 0 rfl (sl 5 rfl (sl 22 rfl (sl 23 rfl (sl 24 rfl sn))))) en ?_
    refine tri_block ?_
    refine tri_loop (ι := Nat × Bool) (fun (i, p) => [(0, T.l (cL (cZi k)) b), (5, T.c (.bool p)), (22, T.l (cL (cZi k)) b), (23, T.c (.int .i64 (b.length : Int))), (24, T.c (.int .i64 (i : Int)))]) (fun (i, p) => []) (fun (i, p) => b.length - i) (fun (i, p) => (i ≤ b.length) ∧ (p = true ↔ BigU b true i)) (0, true) ⟨Nat.zero_le _, bigU_zero ⟨fun _ => .inl h1, fun _ => rfl⟩⟩ (sl 0 rfl (sl 5 rfl (sl 22 rfl (sl 23 rfl (sl 24 rfl sn))))) en ?_
    rintro ⟨i, p⟩ ⟨hi, hp⟩
    refine tri_sub (sl 0 rfl (sl 5 rfl (sl 22 rfl (sl 23 rfl (sl 24 rfl sn))))) en ?_
    refine tri_seq ?_
    refine tri_reg mixed hcx ?_ _ _
    refine clt rfl rfl rfl ?_
    refine ⟨by kernel_rfl, ?_⟩
    refine nx (sl 0 rfl (sl 5 rfl (sl 22 rfl (sl 23 rfl (sl 24 rfl (sl 25 rfl sn)))))) en ?_
    refine tri_seq ?_
    refine tri_if rfl (fun hc => ?_) (fun hc => ?_)
    · have hmi : (b.getD i (cL (cZi k)).dflt).length ≤ 1048576 := hrr i (by omega)
      refine tri_skip ?_
      refine nx (sl 0 rfl (sl 5 rfl (sl 22 rfl (sl 23 rfl (sl 24 rfl sn))))) en ?_
      refine tri_seq ?_
      refine tri_block ?_
      refine tri_seq ?_
      refine tri_reg mixed hcx ?_ _ _
      refine ix rfl rfl slZss ⟨rfl, by omega⟩ ?_
      refine lf rfl tyZs ?_
      refine asg rfl ?_
      refine ⟨by kernel_rfl, ?_⟩
      refine nx (sl 0 rfl (sl 5 rfl (sl 7 rfl (sl 22 rfl (sl 23 rfl (sl 24 rfl sn)))))) en ?_
      rcases Bool.eq_false_or_eq_true p with h5 | h5; rotate_left; rcases Nat.lt_or_ge 12 (b.getD i (cL (cZi k)).dflt).length with h6 | h6; rotate_left; rotate_left
      · subst h5
        refine tri_reg mixed hcx ?_ _ _
        refine mv rfl ?_
        refine mv rfl ?_
        refine j_off rfl rfl rfl rfl ?_
        refine j_off rfl rfl rfl rfl ?_
        refine j_off rfl rfl rfl rfl ?_
        refine pk rfl rfl ?_
        refine asg rfl ?_
        refine ⟨by kernel_rfl, ?_⟩
        refine pn_blk ?_
        refine nx (sl 0 rfl (sl 5 rfl (sl 22 rfl (sl 23 rfl (sl 24 rfl sn))))) en ?_
        refine tri_reg mixed hcx ?_ _ _
        refine ad (((i + 1 : Nat) : Int)) rfl rfl rfl (by omega) ?_
        refine mv rfl ?_
        refine ⟨by kernel_rfl, ?_⟩
        exact pn_back (i + 1, true) (by dsimp only; omega) ⟨by omega, bigU_t (hp.1 rfl)⟩ (sl 0 rfl (sl 5 rfl (sl 22 rfl (sl 23 rfl (sl 24 rfl sn))))) en
      · subst h5
        refine tri_reg mixed hcx ?_ _ _
        refine mv rfl ?_
        refine mv rfl ?_
        refine mv rfl ?_ (hg := gd1)
        refine ln slZs rfl ?_ (hg := gd1)
        refine cgt rfl rfl (decide_eq_true (by omega)) ?_ (hg := gd1)
        refine pk rfl rfl ?_
        refine asg rfl ?_
        refine ⟨by kernel_rfl, ?_⟩
        refine pn_blk ?_
        refine nx (sl 0 rfl (sl 5 rfl (sl 22 rfl (sl 23 rfl (sl 24 rfl sn))))) en ?_
        refine tri_reg mixed hcx ?_ _ _
        refine ad (((i + 1 : Nat) : Int)) rfl rfl rfl (by omega) ?_
        refine mv rfl ?_
        refine ⟨by kernel_rfl, ?_⟩
        exact pn_back (i + 1, true) (by dsimp only; omega) ⟨by omega, bigU_n h6⟩ (sl 0 rfl (sl 5 rfl (sl 22 rfl (sl 23 rfl (sl 24 rfl sn))))) en
      · subst h5
        refine tri_reg mixed hcx ?_ _ _
        refine mv rfl ?_
        refine mv rfl ?_
        refine mv rfl ?_ (hg := gd1)
        refine ln slZs rfl ?_ (hg := gd1)
        refine cgt rfl rfl (decide_eq_false (by omega)) ?_ (hg := gd1)
        refine pk rfl rfl ?_
        refine asg rfl ?_
        refine ⟨by kernel_rfl, ?_⟩
        refine pn_blk ?_
        refine nx (sl 0 rfl (sl 5 rfl (sl 22 rfl (sl 23 rfl (sl 24 rfl sn))))) en ?_
        refine tri_reg mixed hcx ?_ _ _
        refine ad (((i + 1 : Nat) : Int)) rfl rfl rfl (by omega) ?_
        refine mv rfl ?_
        refine ⟨by kernel_rfl, ?_⟩
        exact pn_back (i + 1, false) (by dsimp only; omega) ⟨by omega, bigU_f (fun h => by have := hp.2 h; cases this) (Nat.not_lt.2 h6)⟩ (sl 0 rfl (sl 5 rfl (sl 22 rfl (sl 23 rfl (sl 24 rfl sn))))) en
    · refine tri_exit ?_
      repeat (first | refine pn_then ?_ | refine pn_oth (by decide) ?_)
      refine pn_ex ?_
      have hin : i = b.length := by omega
      rw [hin] at hp
      refine nx (sl 0 rfl (sl 5 rfl sn)) en ?_
      refine tri_seq ?_
      refine tri_seq ?_
      refine tri_reg mixed hcx ?_ _ _
      refine mv rfl ?_
      refine ⟨by kernel_rfl, ?_⟩
      refine nx (sl 0 rfl (sl 35 rfl sn)) en ?_
      refine tri_cond rfl (fun h7 => ?_) (fun h7 => ?_)
      · have h8 : BigB b true := hp.1 h7
        refine tri_seq ?_
        refine tri_reg mixed hcx ?_ _ _
        refine asg rfl ?_
        refine ⟨by kernel_rfl, ?_⟩
        refine nx (sl 4 rfl sn) en ?_
        refine tri_ret ?_
        repeat (first | refine pn_thenr ?_ | refine pn_blkr ?_)
        exact ret1 hcx rfl (rv_tmp rfl) (ci (hR.big h8).symm) en
      · have h8 : ¬ BigB b true := fun h => by have := hp.2 h; rw [h7] at this; cases this
        have hl12 : b.length ≤ 12 := Nat.not_lt.1 fun h => h8 (.inl h)
        have hr12 : ∀ i, i < b.length → (b.getD i []).length ≤ 12 := fun i hi => Nat.not_lt.1 fun h => h8 (.inr (.inr ⟨i, hi, h⟩))
        refine tri_skip ?_
        refine nx (sl 0 rfl sn) en ?_
        refine tri_seq ?_
        refine tri_seq ?_
        refine tri_reg mixed hcx ?_ _ _
        refine mv rfl ?_
        refine ln slZss rfl ?_
        refine ceq rfl rfl rfl ?_
        refine ⟨by kernel_rfl, ?_⟩
        refine nx (sl 0 rfl (sl 38 rfl sn)) en ?_
        refine tri_if rfl (fun h9 => ?_) (fun h9 => ?_)
        · refine tri_seq ?_
          refine tri_reg mixed hcx ?_ _ _
          refine asg rfl ?_
          refine ⟨by kernel_rfl, ?_⟩
          refine nx (sl 4 rfl sn) en ?_
          refine tri_ret ?_
          repeat (first | refine pn_thenr ?_ | refine pn_blkr ?_)
          exact ret1 hcx rfl (rv_tmp rfl) (ci (hR.nil h8 (by omega)).symm) en
        · have h0 : 0 < b.length := by omega
          refine tri_skip ?_
          refine nx (sl 0 rfl sn) en ?_
          refine tri_seq ?_
          by_cases h10 : BadB b
          · refine tri_reg mixed hcx ?_ _ _
            refine mv rfl ?_
            refine ca rfl (h := mat_Shape_bad h0 hl12 h10 hr12) (hn := ?_)
            refine mv rfl ?_
            refine ex rfl rfl ?_
            refine ex rfl rfl ?_
            refine ex rfl rfl ?_
            refine asg rfl ?_
            refine asg rfl ?_
            refine asg rfl ?_
            refine ⟨by kernel_rfl, ?_⟩
            refine nx (sl 10 rfl sn) en ?_
            refine tri_seq ?_
            refine tri_reg mixed hcx ?_ _ _
            refine mv rfl ?_
            refine asg rfl ?_
            refine ⟨by kernel_rfl, ?_⟩
            refine nx (sl 4 rfl sn) en ?_
            refine tri_ret ?_
            repeat (first | refine pn_thenr ?_ | refine pn_blkr ?_)
            exact ret1 hcx rfl (rv_tmp rfl) (ci (hR.bad h8 (by omega) h10).symm) en
          · have hm : ∀ i, i < b.length → (b.getD i []).length = (b.getD 0 []).length := fun i hi => Decidable.not_not.1 fun e => h10 ⟨i, hi, e⟩
            refine tri_reg mixed hcx ?_ _ _
            refine mv rfl ?_
            refine ca rfl (h := mat_Shape h0 hl12 hm) (hn := ?_)
            refine mv rfl ?_
            refine ex rfl rfl ?_
            refine ex rfl rfl ?_
            refine ex rfl rfl ?_
            refine asg rfl ?_
            refine asg rfl ?_
            refine asg rfl ?_
            refine ⟨by kernel_rfl, ?_⟩
            refine nx (sl 10 rfl sn) en ?_
            refine tri_seq ?_
            refine tri_reg mixed hcx ?_ _ _
            refine mv rfl ?_
            refine asg rfl ?_
            refine ⟨by kernel_rfl, ?_⟩
            refine nx (sl 4 rfl sn) en ?_
            refine tri_ret ?_
            repeat (first | refine pn_thenr ?_ | refine pn_blkr ?_)
            exact ret1 hcx rfl (rv_tmp rfl) (ci (hR.ok h8 (by omega) h10).symm) en
  · refine tri_reg mixed hcx ?_ _ _
    refine mv rfl ?_
    refine ln slZss rfl ?_
    refine cgt rfl rfl (decide_eq_false (by omega)) ?_
    refine mv rfl ?_
    refine mv rfl ?_ (hg := gd1)
    refine mv rfl ?_ (hg := gd1)
    refine mv rfl ?_ (hg := gd1)
    refine ca rfl (h := mat_Bits (by omega) (by omega) hrr) (hn := ?_) (hg := gd1)
    refine cgt rfl rfl (decide_eq_true (by omega)) ?_ (hg := gd1)
    refine pk rfl rfl ?_ (hg := gd1)
    refine pk rfl rfl ?_
    refine asg rfl ?_
    refine ⟨by kernel_rfl, ?_⟩
    refine nx (sl 0 rfl (sl 5 rfl sn)) en ?_
    refine tri_seq ?_
    refine tri_seq ?_
    refine tri_reg mixed hcx ?_ _ _
    refine mv rfl ?_
    refine ln slZss rfl ?_
    refine mv rfl ?_
    refine ⟨by kernel_rfl, ?_⟩
    refine nx (sl 0 rfl (sl 5 rfl (sl 22 rfl (sl 23 rfl (sl 24 rfl sn))))) en ?_
    refine tri_block ?_
    refine tri_loop (ι := Nat × Bool) (fun (i, p) => [(0, T.l (cL (cZi k)) b), (5, T.c (.bool p)), (22, T.l (cL (cZi k)) b), (23, T.c (.int .i64 (b.length : Int))), (24, T.c (.int .i64 (i : Int)))]) (fun (i, p) => []) (fun (i, p) => b.length - i) (fun (i, p) => (i ≤ b.length) ∧ (p = true ↔ BigU b true i)) (0, true) ⟨Nat.zero_le _, bigU_zero ⟨fun _ => .inr ⟨rfl, h2⟩, fun _ => rfl⟩⟩ (sl 0 rfl (sl 5 rfl (sl 22 rfl (sl 23 rfl (sl 24 rfl sn))))) en ?_
    rintro ⟨i, p⟩ ⟨hi, hp⟩
    refine tri_sub (sl 0 rfl (sl 5 rfl (sl 22 rfl (sl 23 rfl (sl 24 rfl sn))))) en ?_
    refine tri_seq ?_
    refine tri_reg mixed hcx ?_ _ _
    refine clt rfl rfl rfl ?_
    refine ⟨by kernel_rfl, ?_⟩
    refine nx (sl 0 rfl (sl 5 rfl (sl 22 rfl (sl 23 rfl (sl 24 rfl (sl 25 rfl sn)))))) en ?_
    refine tri_seq ?_
    refine tri_if rfl (fun hc => ?_) (fun hc => ?_)
    · have hmi : (b.getD i (cL (cZi k)).dflt).length ≤ 1048576 := hrr i (by omega)
      refine tri_skip ?_
      refine nx (sl 0 rfl (sl 5 rfl (sl 22 rfl (sl 23 rfl (sl 24 rfl sn))))) en ?_
      refine tri_seq ?_
      refine tri_block ?_
      refine tri_seq ?_
      refine tri_reg mixed hcx ?_ _ _
      refine ix rfl rfl slZss ⟨rfl, by omega⟩ ?_
      refine lf rfl tyZs ?_
      refine asg rfl ?_
      refine ⟨by kernel_rfl, ?_⟩
      refine nx (sl 0 rfl (sl 5 rfl (sl 7 rfl (sl 22 rfl (sl 23 rfl (sl 24 rfl sn)))))) en ?_
      rcases Bool.eq_false_or_eq_true p with h5 | h5; rotate_left; rcases Nat.lt_or_ge 12 (b.getD i (cL (cZi k)).dflt).length with h6 | h6; rotate_left; rotate_left
      · subst h5
        refine tri_reg mixed hcx ?_ _ _
        refine mv rfl ?_
        refine mv rfl ?_
        refine j_off rfl rfl rfl rfl ?_
        refine j_off rfl rfl rfl rfl ?_
        refine j_off rfl rfl rfl rfl ?_
        refine pk rfl rfl ?_
        refine asg rfl ?_
        refine ⟨by kernel_rfl, ?_⟩
        refine pn_blk ?_
        refine nx (sl 0 rfl (sl 5 rfl (sl 22 rfl (sl 23 rfl (sl 24 rfl sn))))) en ?_
        refine tri_reg mixed hcx ?_ _ _
        refine ad (((i + 1 : Nat) : Int)) rfl rfl rfl (by omega) ?_
        refine mv rfl ?_
        refine ⟨by kernel_rfl, ?_⟩
        exact pn_back (i + 1, true) (by dsimp only; omega) ⟨by omega, bigU_t (hp.1 rfl)⟩ (sl 0 rfl (sl 5 rfl (sl 22 rfl (sl 23 rfl (sl 24 rfl sn))))) en
      · subst h5
        refine tri_reg mixed hcx ?_ _ _
        refine mv rfl ?_
        refine mv rfl ?_
        refine mv rfl ?_ (hg := gd1)
        refine ln slZs rfl ?_ (hg := gd1)
        refine cgt rfl rfl (decide_eq_true (by omega)) ?_ (hg := gd1)
        refine pk rfl rfl ?_
        refine asg rfl ?_
        refine ⟨by kernel_rfl, ?_⟩
        refine pn_blk ?_
        refine nx (sl 0 rfl (sl 5 rfl (sl 22 rfl (sl 23 rfl (sl 24 rfl sn))))) en ?_
        refine tri_reg mixed hcx ?_ _ _
        refine ad (((i + 1 : Nat) : Int)) rfl rfl rfl (by omega) ?_
        refine mv rfl ?_
        refine ⟨by kernel_rfl, ?_⟩
        exact pn_back (i + 1, true) (by dsimp only; omega) ⟨by omega, bigU_n h6⟩ (sl 0 rfl (sl 5 rfl (sl 22 rfl (sl 23 rfl (sl 24 rfl sn))))) en
      · subst h5
        refine tri_reg mixed hcx ?_ _ _
        refine mv rfl ?_
        refine mv rfl ?_
        refine mv rfl ?_ (hg := gd1)
        refine ln slZs rfl ?_ (hg := gd1)
        refine cgt rfl rfl (decide_eq_false (by omega)) ?_ (hg := gd1)
        refine pk rfl rfl ?_
        refine asg rfl ?_
        refine ⟨by kernel_rfl, ?_⟩
        refine pn_blk ?_
        refine nx (sl 0 rfl (sl 5 rfl (sl 22 rfl (sl 23 rfl (sl 24 rfl sn))))) en ?_
        refine tri_reg mixed hcx ?_ _ _
        refine ad (((i + 1 : Nat) : Int)) rfl rfl rfl (by omega) ?_
        refine mv rfl ?_
        refine ⟨by kernel_rfl, ?_⟩
        exact pn_back (i + 1, false) (by dsimp only; omega) ⟨by omega, bigU_f (fun h => by have := hp.2 h; cases this) (Nat.not_lt.2 h6)⟩ (sl 0 rfl (sl 5 rfl (sl 22 rfl (sl 23 rfl (sl 24 rfl sn))))) en
    · refine tri_exit ?_
      repeat (first | refine pn_then ?_ | refine pn_oth (by decide) ?_)
      refine pn_ex ?_
      have hin : i = b.length := by omega
      rw [hin] at hp
      refine nx (sl 0 rfl (sl 5 rfl sn)) en ?_
      refine tri_seq ?_
      refine tri_seq ?_
      refine tri_reg mixed hcx ?_ _ _
      refine mv rfl ?_
      refine ⟨by kernel_rfl, ?_⟩
      refine nx (sl 0 rfl (sl 35 rfl sn)) en ?_
      refine tri_cond rfl (fun h7 => ?_) (fun h7 => ?_)
      · have h8 : BigB b true := hp.1 h7
        refine tri_seq ?_
        refine tri_reg mixed hcx ?_ _ _
        refine asg rfl ?_
        refine ⟨by kernel_rfl, ?_⟩
        refine nx (sl 4 rfl sn) en ?_
        refine tri_ret ?_
        repeat (first | refine pn_thenr ?_ | refine pn_blkr ?_)
        exact ret1 hcx rfl (rv_tmp rfl) (ci (hR.big h8).symm) en
      · have h8 : ¬ BigB b true := fun h => by have := hp.2 h; rw [h7] at this; cases this
        have hl12 : b.length ≤ 12 := Nat.not_lt.1 fun h => h8 (.inl h)
        have hr12 : ∀ i, i < b.length → (b.getD i []).length ≤ 12 := fun i hi => Nat.not_lt.1 fun h => h8 (.inr (.inr ⟨i, hi, h⟩))
        refine tri_skip ?_
        refine nx (sl 0 rfl sn) en ?_
        refine tri_seq ?_
        refine tri_seq ?_
        refine tri_reg mixed hcx ?_ _ _
        refine mv rfl ?_
        refine ln slZss rfl ?_
        refine ceq rfl rfl rfl ?_
        refine ⟨by kernel_rfl, ?_⟩
        refine nx (sl 0 rfl (sl 38 rfl sn)) en ?_
        refine tri_if rfl (fun h9 => ?_) (fun h9 => ?_)
        · refine tri_seq ?_
          refine tri_reg mixed hcx ?_ _ _
          refine asg rfl ?_
          refine ⟨by kernel_rfl, ?_⟩
          refine nx (sl 4 rfl sn) en ?_
          refine tri_ret ?_
          repeat (first | refine pn_thenr ?_ | refine pn_blkr ?_)
          exact ret1 hcx rfl (rv_tmp rfl) (ci (hR.nil h8 (by omega)).symm) en
        · have h0 : 0 < b.length := by omega
          refine tri_skip ?_
          refine nx (sl 0 rfl sn) en ?_
          refine tri_seq ?_
          by_cases h10 : BadB b
          · refine tri_reg mixed hcx ?_ _ _
            refine mv rfl ?_
            refine ca rfl (h := mat_Shape_bad h0 hl12 h10 hr12) (hn := ?_)
            refine mv rfl ?_
            refine ex rfl rfl ?_
            refine ex rfl rfl ?_
            refine ex rfl rfl ?_
            refine asg rfl ?_
            refine asg rfl ?_
            refine asg rfl ?_
            refine ⟨by kernel_rfl, ?_⟩
            refine nx (sl 10 rfl sn) en ?_
            refine tri_seq ?_
            refine tri_reg mixed hcx ?_ _ _
            refine mv rfl ?_
            refine asg rfl ?_
            refine ⟨by kernel_rfl, ?_⟩
            refine nx (sl 4 rfl sn) en ?_
            refine tri_ret ?_
            repeat (first | refine pn_thenr ?_ | refine pn_blkr ?_)
            exact ret1 hcx rfl (rv_tmp rfl) (ci (hR.bad h8 (by omega) h10).symm) en
          · have hm : ∀ i, i < b.length → (b.getD i []).length = (b.getD 0 []).length := fun i hi => Decidable.not_not.1 fun e => h10 ⟨i, hi, e⟩
            refine tri_reg mixed hcx ?_ _ _
            refine mv rfl ?_
            refine ca rfl (h := mat_Shape h0 hl12 hm) (hn := ?_)
            refine mv rfl ?_
            refine ex rfl rfl ?_
            refine ex rfl rfl ?_
            refine ex rfl rfl ?_
            refine asg rfl ?_
            refine asg rfl ?_
            refine asg rfl ?_
            refine ⟨by kernel_rfl, ?_⟩
            refine nx (sl 10 rfl sn) en ?_
            refine tri_seq ?_
            refine tri_reg mixed hcx ?_ _ _
            refine mv rfl ?_
            refine asg rfl ?_
            refine ⟨by kernel_rfl, ?_⟩
            refine nx (sl 4 rfl sn) en ?_
            refine tri_ret ?_
            repeat (first | refine pn_thenr ?_ | refine pn_blkr ?_)
            exact ret1 hcx rfl (rv_tmp rfl) (ci (hR.ok h8 (by omega) h10).symm) en
  · refine tri_reg mixed hcx ?_ _ _
    refine mv rfl ?_
    refine ln slZss rfl ?_
    refine cgt rfl rfl (decide_eq_false (by omega)) ?_
    refine mv rfl ?_
    refine mv rfl ?_ (hg := gd1)
    refine mv rfl ?_ (hg := gd1)
    refine mv rfl ?_ (hg := gd1)
    refine ca rfl (h := mat_Bits (by omega) (by omega) hrr) (hn := ?_) (hg := gd1)
    refine cgt rfl rfl (decide_eq_false (by omega)) ?_ (hg := gd1)
    refine pk rfl rfl ?_ (hg := gd1)
    refine pk rfl rfl ?_
    refine asg rfl ?_
    refine ⟨by kernel_rfl, ?_⟩
    refine nx (sl 0 rfl (sl 5 rfl sn)) en ?_
    refine tri_seq ?_
    refine tri_seq ?_
    refine tri_reg mixed hcx ?_ _ _
    refine mv rfl ?_
    refine ln slZss rfl ?_
    refine mv rfl ?_
    refine ⟨by kernel_rfl, ?_⟩
    refine nx (sl 0 rfl (sl 5 rfl (sl 22 rfl (sl 23 rfl (sl 24 rfl sn))))) en ?_
    refine tri_block ?_
    refine tri_loop (ι := Nat × Bool) (fun (i, p) => [(0, T.l (cL (cZi k)) b), (5, T.c (.bool p)), (22, T.l (cL (cZi k)) b), (23, T.c (.int .i64 (b.length : Int))), (24, T.c (.int .i64 (i : Int)))]) (fun (i, p) => []) (fun (i, p) => b.length - i) (fun (i, p) => (i ≤ b.length) ∧ (p = true ↔ BigU b true i)) (0, false) ⟨Nat.zero_le _, bigU_zero ⟨fun h => (by cases h), fun h => by rcases h with h | h <;> omega⟩⟩ (sl 0 rfl (sl 5 rfl (sl 22 rfl (sl 23 rfl (sl 24 rfl sn))))) en ?_
    rintro ⟨i, p⟩ ⟨hi, hp⟩
    refine tri_sub (sl 0 rfl (sl 5 rfl (sl 22 rfl (sl 23 rfl (sl 24 rfl sn))))) en ?_
    refine tri_seq ?_
    refine tri_reg mixed hcx ?_ _ _
    refine clt rfl rfl rfl ?_
    refine ⟨by kernel_rfl, ?_⟩
    refine nx (sl 0 rfl (sl 5 rfl (sl 22 rfl (sl 23 rfl (sl 24 rfl (sl 25 rfl sn)))))) en ?_
    refine tri_seq ?_
    refine tri_if rfl (fun hc => ?_) (fun hc => ?_)
    · have hmi : (b.getD i (cL (cZi k)).dflt).length ≤ 1048576 := hrr i (by omega)
      refine tri_skip ?_
      refine nx (sl 0 rfl (sl 5 rfl (sl 22 rfl (sl 23 rfl (sl 24 rfl sn))))) en ?_
      refine tri_seq ?_
      refine tri_block ?_
      refine tri_seq ?_
      refine tri_reg mixed hcx ?_ _ _
      refine ix rfl rfl slZss ⟨rfl, by omega⟩ ?_
      refine lf rfl tyZs ?_
      refine asg rfl ?_
      refine ⟨by kernel_rfl, ?_⟩
      refine nx (sl 0 rfl (sl 5 rfl (sl 7 rfl (sl 22 rfl (sl 23 rfl (sl 24 rfl sn)))))) en ?_
      rcases Bool.eq_false_or_eq_true p with h5 | h5; rotate_left; rcases Nat.lt_or_ge 12 (b.getD i (cL (cZi k)).dflt).length with h6 | h6; rotate_left; rotate_left
      · subst h5
        refine tri_reg mixed hcx ?_ _ _
        refine mv rfl ?_
        refine mv rfl ?_
        refine j_off rfl rfl rfl rfl ?_
        refine j_off rfl rfl rfl rfl ?_
        refine j_off rfl rfl rfl rfl ?_
        refine pk rfl rfl ?_
        refine asg rfl ?_
        refine ⟨by kernel_rfl, ?_⟩
        refine pn_blk ?_
        refine nx (sl 0 rfl (sl 5 rfl (sl 22 rfl (sl 23 rfl (sl 24 rfl sn))))) en ?_
        refine tri_reg mixed hcx ?_ _ _
        refine ad (((i + 1 : Nat) : Int)) rfl rfl rfl (by omega) ?_
        refine mv rfl ?_
        refine ⟨by kernel_rfl, ?_⟩
        exact pn_back (i + 1, true) (by dsimp only; omega) ⟨by omega, bigU_t (hp.1 rfl)⟩ (sl 0 rfl (sl 5 rfl (sl 22 rfl (sl 23 rfl (sl 24 rfl sn))))) en
      · subst h5
        refine tri_reg mixed hcx ?_ _ _
        refine mv rfl ?_
        refine mv rfl ?_
        refine mv rfl ?_ (hg := gd1)
        refine ln slZs rfl ?_ (hg := gd1)
        refine cgt rfl rfl (decide_eq_true (by omega)) ?_ (hg := gd1)
        refine pk rfl rfl ?_
        refine asg rfl ?_
        refine ⟨by kernel_rfl, ?_⟩
        refine pn_blk ?_
        refine nx (sl 0 rfl (sl 5 rfl (sl 22 rfl (sl 23 rfl (sl 24 rfl sn))))) en ?_
        refine tri_reg mixed hcx ?_ _ _
        refine ad (((i + 1 : Nat) : Int)) rfl rfl rfl (by omega) ?_
        refine mv rfl ?_
        refine ⟨by kernel_rfl, ?_⟩
        exact pn_back (i + 1, true) (by dsimp only; omega) ⟨by omega, bigU_n h6⟩ (sl 0 rfl (sl 5 rfl (sl 22 rfl (sl 23 rfl (sl 24 rfl sn))))) en
      · subst h5
        refine tri_reg mixed hcx ?_ _ _
        refine mv rfl ?_
        refine mv rfl ?_
        refine mv rfl ?_ (hg := gd1)
        refine ln slZs rfl ?_ (hg := gd1)
        refine cgt rfl rfl (decide_eq_false (by omega)) ?_ (hg := gd1)
        refine pk rfl rfl ?_
        refine asg rfl ?_
        refine ⟨by kernel_rfl, ?_⟩
        refine pn_blk ?_
        refine nx (sl 0 rfl (sl 5 rfl (sl 22 rfl (sl 23 rfl (sl 24 rfl sn))))) en ?_
        refine tri_reg mixed hcx ?_ _ _
        refine ad (((i + 1 : Nat) : Int)) rfl rfl rfl (by omega) ?_
        refine mv rfl ?_
        refine ⟨by kernel_rfl, ?_⟩
        exact pn_back (i + 1, false) (by dsimp only; omega) ⟨by omega, bigU_f (fun h => by have := hp.2 h; cases this) (Nat.not_lt.2 h6)⟩ (sl 0 rfl (sl 5 rfl (sl 22 rfl (sl 23 rfl (sl 24 rfl sn))))) en
    · refine tri_exit ?_
      repeat (first | refine pn_then ?_ | refine pn_oth (by decide) ?_)
      refine pn_ex ?_
      have hin : i = b.length := by omega
      rw [hin] at hp
      refine nx (sl 0 rfl (sl 5 rfl sn)) en ?_
      refine tri_seq ?_
      refine tri_seq ?_
      refine tri_reg mixed hcx ?_ _ _
      refine mv rfl ?_
      refine ⟨by kernel_rfl, ?_⟩
      refine nx (sl 0 rfl (sl 35 rfl sn)) en ?_
      refine tri_cond rfl (fun h7 => ?_) (fun h7 => ?_)
      · have h8 : BigB b true := hp.1 h7
        refine tri_seq ?_
        refine tri_reg mixed hcx ?_ _ _
        refine asg rfl ?_
        refine ⟨by kernel_rfl, ?_⟩
        refine nx (sl 4 rfl sn) en ?_
        refine tri_ret ?_
        repeat (first | refine pn_thenr ?_ | refine pn_blkr ?_)
        exact ret1 hcx rfl (rv_tmp rfl) (ci (hR.big h8).symm) en
      · have h8 : ¬ BigB b true := fun h => by have := hp.2 h; rw [h7] at this; cases this
        have hl12 : b.length ≤ 12 := Nat.not_lt.1 fun h => h8 (.inl h)
        have hr12 : ∀ i, i < b.length → (b.getD i []).length ≤ 12 := fun i hi => Nat.not_lt.1 fun h => h8 (.inr (.inr ⟨i, hi, h⟩))
        refine tri_skip ?_
        refine nx (sl 0 rfl sn) en ?_
        refine tri_seq ?_
        refine tri_seq ?_
        refine tri_reg mixed hcx ?_ _ _
        refine mv rfl ?_
        refine ln slZss rfl ?_
        refine ceq rfl rfl rfl ?_
        refine ⟨by kernel_rfl, ?_⟩
        refine nx (sl 0 rfl (sl 38 rfl sn)) en ?_
        refine tri_if rfl (fun h9 => ?_) (fun h9 => ?_)
        · refine tri_seq ?_
          refine tri_reg mixed hcx ?_ _ _
          refine asg rfl ?_
          refine ⟨by kernel_rfl, ?_⟩
          refine nx (sl 4 rfl sn) en ?_
          refine tri_ret ?_
          repeat (first | refine pn_thenr ?_ | refine pn_blkr ?_)
          exact ret1 hcx rfl (rv_tmp rfl) (ci (hR.nil h8 (by omega)).symm) en
        · have h0 : 0 < b.length := by omega
          refine tri_skip ?_
          refine nx (sl 0 rfl sn) en ?_
          refine tri_seq ?_
          by_cases h10 : BadB b
          · refine tri_reg mixed hcx ?_ _ _
            refine mv rfl ?_
            refine ca rfl (h := mat_Shape_bad h0 hl12 h10 hr12) (hn := ?_)
            refine mv rfl ?_
            refine ex rfl rfl ?_
            refine ex rfl rfl ?_
            refine ex rfl rfl ?_
            refine asg rfl ?_
            refine asg rfl ?_
            refine asg rfl ?_
            refine ⟨by kernel_rfl, ?_⟩
            refine nx (sl 10 rfl sn) en ?_
            refine tri_seq ?_
            refine tri_reg mixed hcx ?_ _ _
            refine mv rfl ?_
            refine asg rfl ?_
            refine ⟨by kernel_rfl, ?_⟩
            refine nx (sl 4 rfl sn) en ?_
            refine tri_ret ?_
            repeat (first | refine pn_thenr ?_ | refine pn_blkr ?_)
            exact ret1 hcx rfl (rv_tmp rfl) (ci (hR.bad h8 (by omega) h10).symm) en
          · have hm : ∀ i, i < b.length → (b.getD i []).length = (b.getD 0 []).length := fun i hi => Decidable.not_not.1 fun e => h10 ⟨i, hi, e⟩
            refine tri_reg mixed hcx ?_ _ _
            refine mv rfl ?_
            refine ca rfl (h := mat_Shape h0 hl12 hm) (hn := ?_)
            refine mv rfl ?_
            refine ex rfl rfl ?_
            refine ex rfl rfl ?_
            refine ex rfl rfl ?_
            refine asg rfl ?_
            refine asg rfl ?_
            refine asg rfl ?_
            refine ⟨by kernel_rfl, ?_⟩
            refine nx (sl 10 rfl sn) en ?_
            refine tri_seq ?_
            refine tri_reg mixed hcx ?_ _ _
            refine mv rfl ?_
            refine asg rfl ?_
            refine ⟨by kernel_rfl, ?_⟩
            refine nx (sl 4 rfl sn) en ?_
            refine tri_ret ?_
            repeat (first | refine pn_thenr ?_ | refine pn_blkr ?_)
            exact ret1 hcx rfl (rv_tmp rfl) (ci (hR.ok h8 (by omega) h10).symm) en

theorem g_shaped_f {b : List (List Int)} {k : Nat} {r : Int} (hk : k ≤ 1048576) (hbl : b.length ≤ 1048576) (hrr : ∀ i, i < b.length → (b.getD i []).length ≤ 1048576) (hR : ShR b false r) : Fn Tryz.prog 48 [T.l (cL (cZi k)) b, T.c (.bool false)] [] [] [] (T.c (.int .i64 r)) := by
  refine fn_of Tryz.func48 rfl (by show 2 ≤ 46; decide) fun cx hcx => ?_
  refine tri_sub (sl 0 rfl (sl 1 rfl sn)) en ?_
  refine tri_seq ?_
  refine tri_reg mixed hcx ?_ _ _
  refine asg rfl ?_
  refine ⟨by kernel_rfl, ?_⟩
  refine nx (sl 0 rfl (sl 1 rfl sn)) en ?_
  refine tri_seq ?_
  rcases Nat.lt_or_ge 12 b.length with h1 | h1
  · refine tri_reg mixed hcx ?_ _ _
    refine mv rfl ?_
    refine ln slZss rfl ?_
    refine cgt rfl rfl (decide_eq_true (by omega)) ?_
    refine mv rfl ?_
    refine j_off rfl rfl rfl rfl ?_
    refine j_off rfl rfl rfl rfl ?_
    refine j_ofu rfl rfl rfl ?_
    refine j_ofu rfl rfl rfl ?_
    refine j_ofu rfl rfl rfl ?_
    refine j_off rfl rfl rfl rfl ?_
    refine pk rfl rfl ?_
    refine asg rfl ?_
    refine ⟨by kernel_rfl, ?_⟩
    refine nx (sl 0 rfl (sl 5 rfl sn)) en ?_
    refine tri_seq ?_
    refine tri_seq ?_
    refine tri_reg mixed hcx ?_ _ _
    refine mv rfl ?_
    refine ln slZss rfl ?_
    refine mv rfl ?_
    refine ⟨by kernel_rfl, ?_⟩
    refine nx (sl 0 rfl (sl 5 rfl (sl 22 rfl (sl 23 rfl (sl 24 rfl sn))))) en ?_
    refine tri_block ?_
    refine tri_loop (ι := Nat × Bool) (fun (i, p) => [(0, T.l (cL (cZi k)) b), (5, T.c (.bool p)), (22, T.l (cL (cZi k)) b), (23, T.c (.int .i64 (b.length : Int))), (24, T.c (.int .i64 (i : Int)))]) (fun (i, p) => []) (fun (i, p) => b.length - i) (fun (i, p) => (i ≤ b.length) ∧ (p = true ↔ BigU b false i)) (0, true) ⟨Nat.zero_le _, bigU_zero ⟨fun _ => .inl h1, fun _ => rfl⟩⟩ (sl 0 rfl (sl 5 rfl (sl 22 rfl (sl 23 rfl (sl 24 rfl sn))))) en ?_
    rintro ⟨i, p⟩ ⟨hi, hp⟩
    refine tri_sub (sl 0 rfl (sl 5 rfl (sl 22 rfl (sl 23 rfl (sl 24 rfl sn))))) en ?_
    refine tri_seq ?_
    refine tri_reg mixed hcx ?_ _ _
    refine clt rfl rfl rfl ?_
    refine ⟨by kernel_rfl, ?_⟩
    refine nx (sl 0 rfl (sl 5 rfl (sl 22 rfl (sl 23 rfl (sl 24 rfl (sl 25 rfl sn)))))) en ?_
    refine tri_seq ?_
    refine tri_if rfl (fun hc => ?_) (fun hc => ?_)
    · have hmi : (b.getD i (cL (cZi k)).dflt).length ≤ 1048576 := hrr i (by omega)
      refine tri_skip ?_
      refine nx (sl 0 rfl (sl 5 rfl (sl 22 rfl (sl 23 rfl (sl 24 rfl sn))))) en ?_
      refine tri_seq ?_
      refine tri_block ?_
      refine tri_seq ?_
      refine tri_reg mixed hcx ?_ _ _
      refine ix rfl rfl slZss ⟨rfl, by omega⟩ ?_
      refine lf rfl tyZs ?_
      refine asg rfl ?_
      refine ⟨by kernel_rfl, ?_⟩
      refine nx (sl 0 rfl (sl 5 rfl (sl 7 rfl (sl 22 rfl (sl 23 rfl (sl 24 rfl sn)))))) en ?_
      rcases Bool.eq_false_or_eq_true p with h5 | h5; rotate_left; rcases Nat.lt_or_ge 12 (b.getD i (cL (cZi k)).dflt).length with h6 | h6; rotate_left; rotate_left
      · subst h5
        refine tri_reg mixed hcx ?_ _ _
        refine mv rfl ?_
        refine mv rfl ?_
        refine j_off rfl rfl rfl rfl ?_
        refine j_off rfl rfl rfl rfl ?_
        refine j_off rfl rfl rfl rfl ?_
        refine pk rfl rfl ?_
        refine asg rfl ?_
        refine ⟨by kernel_rfl, ?_⟩
        refine pn_blk ?_
        refine nx (sl 0 rfl (sl 5 rfl (sl 22 rfl (sl 23 rfl (sl 24 rfl sn))))) en ?_
        refine tri_reg mixed hcx ?_ _ _
        refine ad (((i + 1 : Nat) : Int)) rfl rfl rfl (by omega) ?_
        refine mv rfl ?_
        refine ⟨by kernel_rfl, ?_⟩
        exact pn_back (i + 1, true) (by dsimp only; omega) ⟨by omega, bigU_t (hp.1 rfl)⟩ (sl 0 rfl (sl 5 rfl (sl 22 rfl (sl 23 rfl (sl 24 rfl sn))))) en
      · subst h5
        refine tri_reg mixed hcx ?_ _ _
        refine mv rfl ?_
        refine mv rfl ?_
        refine mv rfl ?_ (hg := gd1)
        refine ln slZs rfl ?_ (hg := gd1)
        refine cgt rfl rfl (decide_eq_true (by omega)) ?_ (hg := gd1)
        refine pk rfl rfl ?_
        refine asg rfl ?_
        refine ⟨by kernel_rfl, ?_⟩
        refine pn_blk ?_
        refine nx (sl 0 rfl (sl 5 rfl (sl 22 rfl (sl 23 rfl (sl 24 rfl sn))))) en ?_
        refine tri_reg mixed hcx ?_ _ _
        refine ad (((i + 1 : Nat) : Int)) rfl rfl rfl (by omega) ?_
        refine mv rfl ?_
        refine ⟨by kernel_rfl, ?_⟩
        exact pn_back (i + 1, true) (by dsimp only; omega) ⟨by omega, bigU_n h6⟩ (sl 0 rfl (sl 5 rfl (sl 22 rfl (sl 23 rfl (sl 24 rfl sn))))) en
      · subst h5
        refine tri_reg mixed hcx ?_ _ _
        refine mv rfl ?_
        refine mv rfl ?_
        refine mv rfl ?_ (hg := gd1)
        refine ln slZs rfl ?_ (hg := gd1)
        refine cgt rfl rfl (decide_eq_false (by omega)) ?_ (hg := gd1)
        refine pk rfl rfl ?_
        refine asg rfl ?_
        refine ⟨by kernel_rfl, ?_⟩
        refine pn_blk ?_
        refine nx (sl 0 rfl (sl 5 rfl (sl 22 rfl (sl 23 rfl (sl 24 rfl sn))))) en ?_
        refine tri_reg mixed hcx ?_ _ _
        refine ad (((i + 1 : Nat) : Int)) rfl rfl rfl (by omega) ?_
        refine mv rfl ?_
        refine ⟨by kernel_rfl, ?_⟩
        exact pn_back (i + 1, false) (by dsimp only; omega) ⟨by omega, bigU_f (fun h => by have := hp.2 h; cases this) (Nat.not_lt.2 h6)⟩ (sl 0 rfl (sl 5 rfl (sl 22 rfl (sl 23 rfl (sl 24 rfl sn))))) en
    · refine tri_exit ?_
      repeat (first | refine pn_then ?_ | refine pn_oth (by decide) ?_)
      refine pn_ex ?_
      have hin : i = b.length := by omega
      rw [hin] at hp
      refine nx (sl 0 rfl (sl 5 rfl sn)) en ?_
      refine tri_seq ?_
      refine tri_seq ?_
      refine tri_reg mixed hcx ?_ _ _
      refine mv rfl ?_
      refine ⟨by kernel_rfl, ?_⟩
      refine nx (sl 0 rfl (sl 35 rfl sn)) en ?_
      refine tri_cond rfl (fun h7 => ?_) (fun h7 => ?_)
      · have h8 : BigB b false := hp.1 h7
        refine tri_seq ?_
        refine tri_reg mixed hcx ?_ _ _
        refine asg rfl ?_
        refine ⟨by kernel_rfl, ?_⟩
        refine nx (sl 4 rfl sn) en ?_
        refine tri_ret ?_
        repeat (first | refine pn_thenr ?_ | refine pn_blkr ?_)
        exact ret1 hcx rfl (rv_tmp rfl) (ci (hR.big h8).symm) en
      · have h8 : ¬ BigB b false := fun h => by have := hp.2 h; rw [h7] at this; cases this
        have hl12 : b.length ≤ 12 := Nat.not_lt.1 fun h => h8 (.inl h)
        have hr12 : ∀ i, i < b.length → (b.getD i []).length ≤ 12 := fun i hi => Nat.not_lt.1 fun h => h8 (.inr (.inr ⟨i, hi, h⟩))
        refine tri_skip ?_
        refine nx (sl 0 rfl sn) en ?_
        refine tri_seq ?_
        refine tri_seq ?_
        refine tri_reg mixed hcx ?_ _ _
        refine mv rfl ?_
        refine ln slZss rfl ?_
        refine ceq rfl rfl rfl ?_
        refine ⟨by kernel_rfl, ?_⟩
        refine nx (sl 0 rfl (sl 38 rfl sn)) en ?_
        refine tri_if rfl (fun h9 => ?_) (fun h9 => ?_)
        · refine tri_seq ?_
          refine tri_reg mixed hcx ?_ _ _
          refine asg rfl ?_
          refine ⟨by kernel_rfl, ?_⟩
          refine nx (sl 4 rfl sn) en ?_
          refine tri_ret ?_
          repeat (first | refine pn_thenr ?_ | refine pn_blkr ?_)
          exact ret1 hcx rfl (rv_tmp rfl) (ci (hR.nil h8 (by omega)).symm) en
        · have h0 : 0 < b.length := by omega
          refine tri_skip ?_
          refine nx (sl 0 rfl sn) en ?_
          refine tri_seq ?_
          by_cases h10 : BadB b
          · refine tri_reg mixed hcx ?_ _ _
            refine mv rfl ?_
            refine ca rfl (h := mat_Shape_bad h0 hl12 h10 hr12) (hn := ?_)
            refine mv rfl ?_
            refine ex rfl rfl ?_
            refine ex rfl rfl ?_
            refine ex rfl rfl ?_
            refine asg rfl ?_
            refine asg rfl ?_
            refine asg rfl ?_
            refine ⟨by kernel_rfl, ?_⟩
            refine nx (sl 10 rfl sn) en ?_
            refine tri_seq ?_
            refine tri_reg mixed hcx ?_ _ _
            refine mv rfl ?_
            refine asg rfl ?_
            refine ⟨by kernel_rfl, ?_⟩
            refine nx (sl 4 rfl sn) en ?_
            refine tri_ret ?_
            repeat (first | refine pn_thenr ?_ | refine pn_blkr ?_)
            exact ret1 hcx rfl (rv_tmp rfl) (ci (hR.bad h8 (by omega) h10).symm) en
          · have hm : ∀ i, i < b.length → (b.getD i []).length = (b.getD 0 []).length := fun i hi => Decidable.not_not.1 fun e => h10 ⟨i, hi, e⟩
            refine tri_reg mixed hcx ?_ _ _
            refine mv rfl ?_
            refine ca rfl (h := mat_Shape h0 hl12 hm) (hn := ?_)
            refine mv rfl ?_
            refine ex rfl rfl ?_
            refine ex rfl rfl ?_
            refine ex rfl rfl ?_
            refine asg rfl ?_
            refine asg rfl ?_
            refine asg rfl ?_
            refine ⟨by kernel_rfl, ?_⟩
            refine nx (sl 10 rfl sn) en ?_
            refine tri_seq ?_
            refine tri_reg mixed hcx ?_ _ _
            refine mv rfl ?_
            refine asg rfl ?_
            refine ⟨by kernel_rfl, ?_⟩
            refine nx (sl 4 rfl sn) en ?_
            refine tri_ret ?_
            repeat (first | refine pn_thenr ?_ | refine pn_blkr ?_)
            exact ret1 hcx rfl (rv_tmp rfl) (ci (hR.ok h8 (by omega) h10).symm) en
  · refine tri_reg mixed hcx ?_ _ _
    refine mv rfl ?_
    refine ln slZss rfl ?_
    refine cgt rfl rfl (decide_eq_false (by omega)) ?_
    refine mv rfl ?_
    refine mv rfl ?_ (hg := gd1)
    refine mv rfl ?_ (hg := gd1)
    refine j_off rfl rfl rfl rfl ?_
    refine j_off rfl rfl rfl rfl ?_
    refine j_off rfl rfl rfl rfl ?_
    refine pk rfl rfl ?_ (hg := gd1)
    refine pk rfl rfl ?_
    refine asg rfl ?_
    refine ⟨by kernel_rfl, ?_⟩
    refine nx (sl 0 rfl (sl 5 rfl sn)) en ?_
    refine tri_seq ?_
    refine tri_seq ?_
    refine tri_reg mixed hcx ?_ _ _
    refine mv rfl ?_
    refine ln slZss rfl ?_
    refine mv rfl ?_
    refine ⟨by kernel_rfl, ?_⟩
    refine nx (sl 0 rfl (sl 5 rfl (sl 22 rfl (sl 23 rfl (sl 24 rfl sn))))) en ?_
    refine tri_block ?_
    refine tri_loop (ι := Nat × Bool) (fun (i, p) => [(0, T.l (cL (cZi k)) b), (5, T.c (.bool p)), (22, T.l (cL (cZi k)) b), (23, T.c (.int .i64 (b.length : Int))), (24, T.c (.int .i64 (i : Int)))]) (fun (i, p) => []) (fun (i, p) => b.length - i) (fun (i, p) => (i ≤ b.length) ∧ (p = true ↔ BigU b false i)) (0, false) ⟨Nat.zero_le _, bigU_zero ⟨fun h => (by cases h), fun h => by rcases h with h | h; omega; cases h.1⟩⟩ (sl 0 rfl (sl 5 rfl (sl 22 rfl (sl 23 rfl (sl 24 rfl sn))))) en ?_
    rintro ⟨i, p⟩ ⟨hi, hp⟩
    refine tri_sub (sl 0 rfl (sl 5 rfl (sl 22 rfl (sl 23 rfl (sl 24 rfl sn))))) en ?_
    refine tri_seq ?_
    refine tri_reg mixed hcx ?_ _ _
    refine clt rfl rfl rfl ?_
    refine ⟨by kernel_rfl, ?_⟩
    refine nx (sl 0 rfl (sl 5 rfl (sl 22 rfl (sl 23 rfl (sl 24 rfl (sl 25 rfl sn)))))) en ?_
    refine tri_seq ?_
    refine tri_if rfl (fun hc => ?_) (fun hc => ?_)
    · have hmi : (b.getD i (cL (cZi k)).dflt).length ≤ 1048576 := hrr i (by omega)
      refine tri_skip ?_
      refine nx (sl 0 rfl (sl 5 rfl (sl 22 rfl (sl 23 rfl (sl 24 rfl sn))))) en ?_
      refine tri_seq ?_
      refine tri_block ?_
      refine tri_seq ?_
      refine tri_reg mixed hcx ?_ _ _
      refine ix rfl rfl slZss ⟨rfl, by omega⟩ ?_
      refine lf rfl tyZs ?_
      refine asg rfl ?_
      refine ⟨by kernel_rfl, ?_⟩
      refine nx (sl 0 rfl (sl 5 rfl (sl 7 rfl (sl 22 rfl (sl 23 rfl (sl 24 rfl sn)))))) en ?_
      rcases Bool.eq_false_or_eq_true p with h5 | h5; rotate_left; rcases Nat.lt_or_ge 12 (b.getD i (cL (cZi k)).dflt).length with h6 | h6; rotate_left; rotate_left
      · subst h5
        refine tri_reg mixed hcx ?_ _ _
        refine mv rfl ?_
        refine mv rfl ?_
        refine j_off rfl rfl rfl rfl ?_
        refine j_off rfl rfl rfl rfl ?_
        refine j_off rfl rfl rfl rfl ?_
        refine pk rfl rfl ?_
        refine asg rfl ?_
        refine ⟨by kernel_rfl, ?_⟩
        refine pn_blk ?_
        refine nx (sl 0 rfl (sl 5 rfl (sl 22 rfl (sl 23 rfl (sl 24 rfl sn))))) en ?_
        refine tri_reg mixed hcx ?_ _ _
        refine ad (((i + 1 : Nat) : Int)) rfl rfl rfl (by omega) ?_
        refine mv rfl ?_
        refine ⟨by kernel_rfl, ?_⟩
        exact pn_back (i + 1, true) (by dsimp only; omega) ⟨by omega, bigU_t (hp.1 rfl)⟩ (sl 0 rfl (sl 5 rfl (sl 22 rfl (sl 23 rfl (sl 24 rfl sn))))) en
      · subst h5
        refine tri_reg mixed hcx ?_ _ _
        refine mv rfl ?_
        refine mv rfl ?_
        refine mv rfl ?_ (hg := gd1)
        refine ln slZs rfl ?_ (hg := gd1)
        refine cgt rfl rfl (decide_eq_true (by omega)) ?_ (hg := gd1)
        refine pk rfl rfl ?_
        refine asg rfl ?_
        refine ⟨by kernel_rfl, ?_⟩
        refine pn_blk ?_
        refine nx (sl 0 rfl (sl 5 rfl (sl 22 rfl (sl 23 rfl (sl 24 rfl sn))))) en ?_
        refine tri_reg mixed hcx ?_ _ _
        refine ad (((i + 1 : Nat) : Int)) rfl rfl rfl (by omega) ?_
        refine mv rfl ?_
        refine ⟨by kernel_rfl, ?_⟩
        exact pn_back (i + 1, true) (by dsimp only; omega) ⟨by omega, bigU_n h6⟩ (sl 0 rfl (sl 5 rfl (sl 22 rfl (sl 23 rfl (sl 24 rfl sn))))) en
      · subst h5
        refine tri_reg mixed hcx ?_ _ _
        refine mv rfl ?_
        refine mv rfl ?_
        refine mv rfl ?_ (hg := gd1)
        refine ln slZs rfl ?_ (hg := gd1)
        refine cgt rfl rfl (decide_eq_false (by omega)) ?_ (hg := gd1)
        refine pk rfl rfl ?_
        refine asg rfl ?_
        refine ⟨by kernel_rfl, ?_⟩
        refine pn_blk ?_
        refine nx (sl 0 rfl (sl 5 rfl (sl 22 rfl (sl 23 rfl (sl 24 rfl sn))))) en ?_
        refine tri_reg mixed hcx ?_ _ _
        refine ad (((i + 1 : Nat) : Int)) rfl rfl rfl (by omega) ?_
        refine mv rfl ?_
        refine ⟨by kernel_rfl, ?_⟩
        exact pn_back (i + 1, false) (by dsimp only; omega) ⟨by omega, bigU_f (fun h => by have := hp.2 h; cases this) (Nat.not_lt.2 h6)⟩ (sl 0 rfl (sl 5 rfl (sl 22 rfl (sl 23 rfl (sl 24 rfl sn))))) en
    · refine tri_exit ?_
      repeat (first | refine pn_then ?_ | refine pn_oth (by decide) ?_)
      refine pn_ex ?_
      have hin : i = b.length := by omega
      rw [hin] at hp
      refine nx (sl 0 rfl (sl 5 rfl sn)) en ?_
      refine tri_seq ?_
      refine tri_seq ?_
      refine tri_reg mixed hcx ?_ _ _
      refine mv rfl ?_
      refine ⟨by kernel_rfl, ?_⟩
      refine nx (sl 0 rfl (sl 35 rfl sn)) en ?_
      refine tri_cond rfl (fun h7 => ?_) (fun h7 => ?_)
      · have h8 : BigB b false := hp.1 h7
        refine tri_seq ?_
        refine tri_reg mixed hcx ?_ _ _
        refine asg rfl ?_
        refine ⟨by kernel_rfl, ?_⟩
        refine nx (sl 4 rfl sn) en ?_
        refine tri_ret ?_
        repeat (first | refine pn_thenr ?_ | refine pn_blkr ?_)
        exact ret1 hcx rfl (rv_tmp rfl) (ci (hR.big h8).symm) en
      · have h8 : ¬ BigB b false := fun h => by have := hp.2 h; rw [h7] at this; cases this
        have hl12 : b.length ≤ 12 := Nat.not_lt.1 fun h => h8 (.inl h)
        have hr12 : ∀ i, i < b.length → (b.getD i []).length ≤ 12 := fun i hi => Nat.not_lt.1 fun h => h8 (.inr (.inr ⟨i, hi, h⟩))
        refine tri_skip ?_
        refine nx (sl 0 rfl sn) en ?_
        refine tri_seq ?_
        refine tri_seq ?_
        refine tri_reg mixed hcx ?_ _ _
        refine mv rfl ?_
        refine ln slZss rfl ?_
        refine ceq rfl rfl rfl ?_
        refine ⟨by kernel_rfl, ?_⟩
        refine nx (sl 0 rfl (sl 38 rfl sn)) en ?_
        refine tri_if rfl (fun h9 => ?_) (fun h9 => ?_)
        · refine tri_seq ?_
          refine tri_reg mixed hcx ?_ _ _
          refine asg rfl ?_
          refine ⟨by kernel_rfl, ?_⟩
          refine nx (sl 4 rfl sn) en ?_
          refine tri_ret ?_
          repeat (first | refine pn_thenr ?_ | refine pn_blkr ?_)
          exact ret1 hcx rfl (rv_tmp rfl) (ci (hR.nil h8 (by omega)).symm) en
        · have h0 : 0 < b.length := by omega
          refine tri_skip ?_
          refine nx (sl 0 rfl sn) en ?_
          refine tri_seq ?_
          by_cases h10 : BadB b
          · refine tri_reg mixed hcx ?_ _ _
            refine mv rfl ?_
            refine ca rfl (h := mat_Shape_bad h0 hl12 h10 hr12) (hn := ?_)
            refine mv rfl ?_
            refine ex rfl rfl ?_
            refine ex rfl rfl ?_
            refine ex rfl rfl ?_
            refine asg rfl ?_
            refine asg rfl ?_
            refine asg rfl ?_
            refine ⟨by kernel_rfl, ?_⟩
            refine nx (sl 10 rfl sn) en ?_
            refine tri_seq ?_
            refine tri_reg mixed hcx ?_ _ _
            refine mv rfl ?_
            refine asg rfl ?_
            refine ⟨by kernel_rfl, ?_⟩
            refine nx (sl 4 rfl sn) en ?_
            refine tri_ret ?_
            repeat (first | refine pn_thenr ?_ | refine pn_blkr ?_)
            exact ret1 hcx rfl (rv_tmp rfl) (ci (hR.bad h8 (by omega) h10).symm) en
          · have hm : ∀ i, i < b.length → (b.getD i []).length = (b.getD 0 []).length := fun i hi => Decidable.not_not.1 fun e => h10 ⟨i, hi, e⟩
            refine tri_reg mixed hcx ?_ _ _
            refine mv rfl ?_
            refine ca rfl (h := mat_Shape h0 hl12 hm) (hn := ?_)
            refine mv rfl ?_
            refine ex rfl rfl ?_
            refine ex rfl rfl ?_
            refine ex rfl rfl ?_
            refine asg rfl ?_
            refine asg rfl ?_
            refine asg rfl ?_
            refine ⟨by kernel_rfl, ?_⟩
            refine nx (sl 10 rfl sn) en ?_
            refine tri_seq ?_
            refine tri_reg mixed hcx ?_ _ _
            refine mv rfl ?_
            refine asg rfl ?_
            refine ⟨by kernel_rfl, ?_⟩
            refine nx (sl 4 rfl sn) en ?_
            refine tri_ret ?_
            repeat (first | refine pn_thenr ?_ | refine pn_blkr ?_)
            exact ret1 hcx rfl (rv_tmp rfl) (ci (hR.ok h8 (by omega) h10).symm) en
end Go.Proofs.YtmfgnbchehnpjaaGreat.V
/- Determinants: the numbers that the data of rows are divided to are whole, and the data say what elimination says. -/
set_option linter.unusedVariables false
namespace Go.Proofs.YtmfgnbchehnpjaaGreat.V
open Mt Nml
abbrev Rw := Nat → Rat
/-- The sum along a column, row by row. -/
def sm (f : List Rw → Rat) (c : Nat) : List Rw → List Rw → Rat
  | _, [] => 0
  | pre, r :: rest => r c * f (pre ++ rest) - sm f c (pre ++ [r]) rest
/-- The determinant of n rows from column c on. -/
def Dt : Nat → Nat → List Rw → Rat
  | 0, _, _ => 1
  | n + 1, c, l => sm (Dt n (c + 1)) c [] l
def addm (x : Rw) (q : Rat) (y : Rw) : Rw := fun j => x j + q * y j
def LinD (n : Nat) (f : List Rw → Rat) : Prop := ∀ A x y q B, A.length + B.length + 1 = n → f (A ++ addm x q y :: B) = f (A ++ x :: B) + q * f (A ++ y :: B)
def AltD (n : Nat) (f : List Rw → Rat) : Prop := ∀ A x y B, A.length + B.length + 2 = n → f (A ++ x :: y :: B) = -f (A ++ y :: x :: B)
theorem sm_lin_pre {n c : Nat} {f : List Rw → Rat} (hf : LinD n f) {P : List Rw} {x y : Rw} {q : Rat} : ∀ (rest Q : List Rw), P.length + Q.length + rest.length = n → sm f c (P ++ addm x q y :: Q) rest = sm f c (P ++ x :: Q) rest + q * sm f c (P ++ y :: Q) rest
  | [], Q, _ => by show (0 : Rat) = 0 + q * 0; grind
  | r :: rest, Q, h => by
    have e : ∀ z : Rw, sm f c (P ++ z :: Q) (r :: rest) = r c * f (P ++ z :: (Q ++ rest)) - sm f c (P ++ z :: (Q ++ [r])) rest := fun z => by
      show r c * f ((P ++ z :: Q) ++ rest) - sm f c ((P ++ z :: Q) ++ [r]) rest = _
      simp only [List.append_assoc, List.cons_append]
    simp only [List.length_cons] at h
    rw [e, e, e, hf P x y q (Q ++ rest) (by simp only [List.length_append]; omega), sm_lin_pre hf rest (Q ++ [r]) (by simp only [List.length_append, List.length_cons, List.length_nil]; omega)]
    grind
theorem sm_lin {n c : Nat} {f : List Rw → Rat} (hf : LinD n f) {x y : Rw} {q : Rat} {B : List Rw} : ∀ (A pre : List Rw), pre.length + A.length + B.length = n → sm f c pre (A ++ addm x q y :: B) = sm f c pre (A ++ x :: B) + q * sm f c pre (A ++ y :: B)
  | [], pre, h => by
    show (x c + q * y c) * f (pre ++ B) - sm f c (pre ++ [addm x q y]) B = (x c * f (pre ++ B) - sm f c (pre ++ [x]) B) + q * (y c * f (pre ++ B) - sm f c (pre ++ [y]) B)
    rw [sm_lin_pre hf B [] (by simpa using h)]
    grind
  | a :: A, pre, h => by
    simp only [List.length_cons] at h
    have e : ∀ z : Rw, sm f c pre ((a :: A) ++ z :: B) = a c * f ((pre ++ A) ++ z :: B) - sm f c (pre ++ [a]) (A ++ z :: B) := fun z => by
      show a c * f (pre ++ (A ++ z :: B)) - sm f c (pre ++ [a]) (A ++ z :: B) = _
      rw [← List.append_assoc]
    rw [e, e, e, hf (pre ++ A) x y q B (by simp only [List.length_append]; omega), sm_lin hf A (pre ++ [a]) (by simp only [List.length_append, List.length_cons, List.length_nil]; omega)]
    grind
theorem sm_alt_pre {n c : Nat} {f : List Rw → Rat} (hf : AltD n f) {P : List Rw} {x y : Rw} : ∀ (rest Q : List Rw), P.length + Q.length + 1 + rest.length = n → sm f c (P ++ x :: y :: Q) rest = -sm f c (P ++ y :: x :: Q) rest
  | [], Q, _ => by show (0 : Rat) = -0; grind
  | r :: rest, Q, h => by
    have e : ∀ z w : Rw, sm f c (P ++ z :: w :: Q) (r :: rest) = r c * f (P ++ z :: w :: (Q ++ rest)) - sm f c (P ++ z :: w :: (Q ++ [r])) rest := fun z w => by
      show r c * f ((P ++ z :: w :: Q) ++ rest) - sm f c ((P ++ z :: w :: Q) ++ [r]) rest = _
      simp only [List.append_assoc, List.cons_append]
    simp only [List.length_cons] at h
    rw [e, e, hf P x y (Q ++ rest) (by simp only [List.length_append]; omega), sm_alt_pre hf rest (Q ++ [r]) (by simp only [List.length_append, List.length_cons, List.length_nil]; omega)]
    grind
theorem sm_alt {n c : Nat} {f : List Rw → Rat} (hf : AltD n f) {x y : Rw} {B : List Rw} : ∀ (A pre : List Rw), pre.length + A.length + B.length + 1 = n → sm f c pre (A ++ x :: y :: B) = -sm f c pre (A ++ y :: x :: B)
  | [], pre, h => by
    have e : ∀ z w : Rw, sm f c pre (z :: w :: B) = z c * f (pre ++ w :: B) - (w c * f (pre ++ z :: B) - sm f c (pre ++ z :: w :: []) B) := fun z w => by
      show z c * f (pre ++ w :: B) - (w c * f ((pre ++ [z]) ++ B) - sm f c ((pre ++ [z]) ++ [w]) B) = _
      simp only [List.append_assoc, List.cons_append, List.nil_append]
    show sm f c pre (x :: y :: B) = -sm f c pre (y :: x :: B)
    rw [e, e, sm_alt_pre (x := x) (y := y) hf B [] (by simp only [List.length_nil] at h ⊢; omega)]
    grind
  | a :: A, pre, h => by
    simp only [List.length_cons] at h
    have e : ∀ z w : Rw, sm f c pre ((a :: A) ++ z :: w :: B) = a c * f ((pre ++ A) ++ z :: w :: B) - sm f c (pre ++ [a]) (A ++ z :: w :: B) := fun z w => by
      show a c * f (pre ++ (A ++ z :: w :: B)) - sm f c (pre ++ [a]) (A ++ z :: w :: B) = _
      rw [← List.append_assoc]
    rw [e, e, hf (pre ++ A) x y B (by simp only [List.length_append]; omega), sm_alt hf A (pre ++ [a]) (by simp only [List.length_append, List.length_cons, List.length_nil]; omega)]
    grind
theorem dt_lin : ∀ n c, LinD n (Dt n c)
  | 0, c => fun A x y q B h => absurd h (by omega)
  | n + 1, c => fun A x y q B h => sm_lin (dt_lin n (c + 1)) A [] (by simp only [List.length_nil]; omega)
theorem dt_alt : ∀ n c, AltD n (Dt n c)
  | 0, c => fun A x y B h => absurd h (by omega)
  | n + 1, c => fun A x y B h => sm_alt (dt_alt n (c + 1)) A [] (by simp only [List.length_nil]; omega)
theorem dup_zero {n : Nat} {f : List Rw → Rat} (hf : AltD n f) {x : Rw} {C : List Rw} : ∀ (B A : List Rw), A.length + B.length + C.length + 2 = n → f (A ++ x :: (B ++ x :: C)) = 0
  | [], A, h => by
    have := hf A x x C (by simp only [List.length_nil] at h; omega)
    show f (A ++ x :: x :: C) = 0
    grind
  | b :: B, A, h => by
    simp only [List.length_cons] at h
    have h1 := hf A x b (B ++ x :: C) (by simp only [List.length_append, List.length_cons]; omega)
    have h2 := dup_zero hf (x := x) (C := C) B (A ++ [b]) (by simp only [List.length_append, List.length_cons, List.length_nil]; omega)
    rw [List.append_assoc] at h2
    show f (A ++ x :: b :: (B ++ x :: C)) = 0
    rw [h1]
    show -f (A ++ ([b] ++ x :: (B ++ x :: C))) = 0
    rw [h2]
    grind
def eln (c : Nat) (x r : Rw) : Rw := addm r (-(r c / x c)) x
theorem eln_all {n c : Nat} {x : Rw} : ∀ (l A : List Rw), A.length + l.length + 1 = n → Dt n c (x :: (A ++ l)) = Dt n c (x :: (A ++ l.map (eln c x)))
  | [], A, _ => rfl
  | r :: l, A, h => by
    simp only [List.length_cons] at h
    have h1 := dt_lin n c (x :: A) r x (-(r c / x c)) l (by simp only [List.length_cons]; omega)
    have h2 := dup_zero (dt_alt n c) (x := x) (C := l) A [] (by simp only [List.length_nil]; omega)
    have h3 := eln_all (n := n) (c := c) (x := x) l (A ++ [eln c x r]) (by simp only [List.length_append, List.length_cons, List.length_nil]; omega)
    rw [List.append_assoc, List.append_assoc] at h3
    show Dt n c (x :: (A ++ r :: l)) = Dt n c (x :: (A ++ ([eln c x r] ++ l.map (eln c x))))
    rw [← h3]
    show Dt n c ((x :: A) ++ r :: l) = Dt n c ((x :: A) ++ eln c x r :: l)
    unfold eln
    rw [h1]
    have h2' : Dt n c ((x :: A) ++ x :: l) = 0 := h2
    rw [h2']
    grind
theorem sm_zero {f : List Rw → Rat} {c : Nat} : ∀ (l pre : List Rw), (∀ r ∈ l, r c = 0) → sm f c pre l = 0
  | [], _, _ => rfl
  | r :: l, pre, h => by
    show r c * f (pre ++ l) - sm f c (pre ++ [r]) l = 0
    rw [h r List.mem_cons_self, sm_zero l _ (fun q hq => h q (List.mem_cons_of_mem _ hq))]
    grind
theorem dt_step {n c : Nat} {x : Rw} {l : List Rw} (hx : x c ≠ 0) (hl : l.length = n) : Dt (n + 1) c (x :: l) = x c * Dt n (c + 1) (l.map (eln c x)) := by
  rw [show x :: l = x :: ([] ++ l) from rfl, eln_all l [] (by simp only [List.length_nil]; omega)]
  show x c * Dt n (c + 1) (l.map (eln c x)) - sm (Dt n (c + 1)) c [x] (l.map (eln c x)) = _
  rw [sm_zero _ _ (fun r hr => by
    obtain ⟨q, _, rfl⟩ := List.mem_map.1 hr
    show q c + -(q c / x c) * x c = 0
    rw [Rat.neg_mul, Rat.div_mul_cancel hx]
    grind)]
  grind
/-- The rows behind k steps of elimination. -/
def Mr (g : Nat → Rw) : Nat → Nat → Rw
  | 0, i => g i
  | k + 1, i => eln k (Mr g k k) (Mr g k i)
def pr (g : Nat → Rw) (t : Nat) : Nat → Rat
  | 0 => 1
  | d + 1 => Mr g t t t * pr g (t + 1) d
theorem pr_snoc (g : Nat → Rw) : ∀ d t, pr g t (d + 1) = pr g t d * Mr g (t + d) (t + d) (t + d)
  | 0, t => by show Mr g t t t * 1 = 1 * Mr g (t + 0) (t + 0) (t + 0); rw [Nat.add_zero]; grind
  | d + 1, t => by
    show Mr g t t t * pr g (t + 1) (d + 1) = Mr g t t t * pr g (t + 1) d * _
    rw [pr_snoc g d (t + 1), show t + 1 + d = t + (d + 1) by omega]
    grind
theorem det_M (g : Nat → Rw) (i : Nat) : ∀ d t, (∀ s, t ≤ s → s < t + d → Mr g s s s ≠ 0) → Dt (d + 1) t ((List.range' t d).map (Mr g t) ++ [Mr g t i]) = pr g t d * Mr g (t + d) i (t + d)
  | 0, t, _ => by
    show Mr g t i t * 1 - 0 = 1 * Mr g (t + 0) i (t + 0)
    rw [Nat.add_zero]; grind
  | d + 1, t, h => by
    rw [List.range'_succ, List.map_cons, List.cons_append, dt_step (h t (Nat.le_refl _) (by omega)) (by simp), List.map_append, List.map_map]
    have := det_M g i d (t + 1) (fun s h1 h2 => h s (by omega) (by omega))
    rw [show t + (d + 1) = t + 1 + d by omega]
    show Mr g t t t * Dt (d + 1) (t + 1) (List.map (Mr g (t + 1)) (List.range' (t + 1) d) ++ [Mr g (t + 1) i]) = Mr g t t t * pr g (t + 1) d * _
    rw [this]
    grind
def IsW (q : Rat) : Prop := ∃ z : Int, q = (z : Rat)
theorem IsW.mul {a b : Rat} (h : IsW a) (k : IsW b) : IsW (a * b) := by obtain ⟨x, rfl⟩ := h; obtain ⟨y, rfl⟩ := k; exact ⟨x * y, (Rat.intCast_mul x y).symm⟩
theorem IsW.sub {a b : Rat} (h : IsW a) (k : IsW b) : IsW (a - b) := by obtain ⟨x, rfl⟩ := h; obtain ⟨y, rfl⟩ := k; exact ⟨x - y, (Rat.intCast_sub x y).symm⟩
theorem IsW.one : IsW 1 := ⟨1, rfl⟩
theorem IsW.zero : IsW 0 := ⟨0, rfl⟩
theorem sm_int {f : List Rw → Rat} {c : Nat} (hf : ∀ l : List Rw, (∀ r ∈ l, ∀ j, IsW (r j)) → IsW (f l)) : ∀ (l pre : List Rw), (∀ r ∈ l, ∀ j, IsW (r j)) → (∀ r ∈ pre, ∀ j, IsW (r j)) → IsW (sm f c pre l)
  | [], _, _, _ => IsW.zero
  | r :: l, pre, h, hp => by
    refine ((h r List.mem_cons_self c).mul (hf _ fun q hq => ?_)).sub (sm_int hf l _ (fun q hq => h q (List.mem_cons_of_mem _ hq)) fun q hq => ?_)
    · rcases List.mem_append.1 hq with h1 | h1
      · exact hp q h1
      · exact h q (List.mem_cons_of_mem _ h1)
    · rcases List.mem_append.1 hq with h1 | h1
      · exact hp q h1
      · rw [List.mem_singleton.1 h1]; exact h r List.mem_cons_self
theorem dt_int : ∀ n c (l : List Rw), (∀ r ∈ l, ∀ j, IsW (r j)) → IsW (Dt n c l)
  | 0, _, _, _ => IsW.one
  | n + 1, c, l, h => sm_int (dt_int n (c + 1)) l [] h (fun r hr => by cases hr)
theorem mr_col (g : Nat → Rw) (k j : Nat) : ∀ t, t ≤ k → ∀ i c, Mr (fun s c => if c < k then g s c else g s j) t i c = Mr g t i (if c < k then c else j)
  | 0, _, i, c => by show (if c < k then g i c else g i j) = g i _; split <;> rfl
  | t + 1, h, i, c => by
    have ih := mr_col g k j t (by omega)
    show Mr _ t i c + -(Mr _ t i t / Mr _ t t t) * Mr _ t t c = Mr g t i _ + -(Mr g t i t / Mr g t t t) * Mr g t t _
    rw [ih i c, ih i t, ih t t, ih t c, if_pos (show t < k by omega)]
theorem pr_col (g : Nat → Rw) (k j : Nat) : ∀ d t, t + d ≤ k → pr (fun s c => if c < k then g s c else g s j) t d = pr g t d
  | 0, _, _ => rfl
  | d + 1, t, h => by
    show Mr _ t t t * pr _ (t + 1) d = _ * _
    rw [pr_col g k j d (t + 1) (by omega), mr_col g k j t (by omega) t t, if_pos (show t < k by omega)]
/-- The numerators are whole. -/
theorem minor_int {g : Nat → Rw} (hg : ∀ s c, IsW (g s c)) {k : Nat} (hp : ∀ s, s < k → Mr g s s s ≠ 0) (i j : Nat) : IsW (pr g 0 k * Mr g k i j) := by
  have h := det_M (fun s c => if c < k then g s c else g s j) i k 0 (fun s _ hs => by
    rw [mr_col g k j s (by omega), if_pos (show s < k by omega)]; exact hp s (by omega))
  rw [pr_col g k j k 0 (by omega), Nat.zero_add, mr_col g k j k (Nat.le_refl _), if_neg (Nat.lt_irrefl k)] at h
  rw [← h]
  refine dt_int _ _ _ fun r hr c => ?_
  have hz : ∀ s c, IsW ((fun (s c : Nat) => if c < k then g s c else g s j) s c) := fun s c => by show IsW (if c < k then g s c else g s j); split <;> exact hg _ _
  rcases List.mem_append.1 hr with h1 | h1
  · obtain ⟨q, _, rfl⟩ := List.mem_map.1 h1; exact hz q c
  · rw [List.mem_singleton.1 h1]; exact hz i c
theorem mr_symm {g : Nat → Rw} (hg : ∀ i j, g i j = g j i) : ∀ k i j, Mr g k i j = Mr g k j i
  | 0, i, j => hg i j
  | k + 1, i, j => by
    show Mr g k i j + -(Mr g k i k / Mr g k k k) * Mr g k k j = Mr g k j i + -(Mr g k j k / Mr g k k k) * Mr g k k i
    rw [mr_symm hg k i j, mr_symm hg k k j, mr_symm hg k k i, Rat.div_def, Rat.div_def]
    grind
/-- The products of rows, as fractions. -/
def gU (b : List (List Int)) (i j : Nat) : Int := dotU (b.getD i []) (b.getD j []) (b.getD i []).length
def gR (b : List (List Int)) (i : Nat) : Rw := fun j => ((gU b i j : Int) : Rat)
theorem dotU_comm (xs ys : List Int) : ∀ n, dotU xs ys n = dotU ys xs n
  | 0 => rfl
  | n + 1 => by show dotU xs ys n + _ = dotU ys xs n + _; rw [dotU_comm xs ys n, Int.mul_comm]
/-- Products behind the length are nought. -/
theorem dotU_more {xs ys : List Int} {m : Nat} (h : xs.length ≤ m) : ∀ d, dotU xs ys (m + d) = dotU xs ys m
  | 0 => rfl
  | d + 1 => by
    show dotU xs ys (m + d) + xs.getD (m + d) 0 * _ = _
    rw [dotU_more h d, show xs.getD (m + d) 0 = 0 from by rw [List.getD_eq_getElem?_getD, List.getElem?_eq_none (by omega)]; rfl, Int.zero_mul, Int.add_zero]
theorem gU_symm (b : List (List Int)) (i j : Nat) : gU b i j = gU b j i := by
  unfold gU
  rcases Nat.le_total (b.getD i []).length (b.getD j []).length with h | h
  · obtain ⟨d, hd⟩ := Nat.le.dest h
    rw [← hd, dotU_comm (b.getD j []), dotU_more (Nat.le_refl _) d]
  · obtain ⟨d, hd⟩ := Nat.le.dest h
    rw [← hd, dotU_comm, dotU_more (Nat.le_refl _) d]
theorem gR_symm (b : List (List Int)) (i j : Nat) : gR b i j = gR b j i := by show ((gU b i j : Int) : Rat) = _; rw [gU_symm]; rfl
theorem gR_int (b : List (List Int)) (i j : Nat) : IsW (gR b i j) := ⟨_, rfl⟩
/-- All pivots ahead of n are above nought. -/
def Ok (b : List (List Int)) (n : Nat) : Prop := ∀ k, k < n → 0 < Mr (gR b) k k k
abbrev pb (b : List (List Int)) (k : Nat) : Rat := pr (gR b) 0 k
theorem pb_succ (b : List (List Int)) (k : Nat) : pb b (k + 1) = pb b k * Mr (gR b) k k k := by have := pr_snoc (gR b) k 0; rw [Nat.zero_add] at this; exact this
theorem pb_pos {b : List (List Int)} {n : Nat} (h : Ok b n) : ∀ k, k ≤ n → 0 < pb b k
  | 0, _ => by show (0 : Rat) < 1; decide
  | k + 1, hk => by rw [pb_succ]; exact Rat.mul_pos (pb_pos h k (by omega)) (h k (by omega))
theorem rat_pos_ne {q : Rat} (h : 0 < q) : q ≠ 0 := fun e => by rw [e] at h; exact absurd h (Rat.lt_irrefl)
theorem ok_ne {b : List (List Int)} {n : Nat} (h : Ok b n) {k : Nat} (hk : k < n) : Mr (gR b) k k k ≠ 0 := rat_pos_ne (h k hk)
/-- What the data say, so far. -/
structure DI (b : List (List Int)) (i : Nat) (D : List Int) (L : List (List Int)) : Prop where
  lD : D.length = i + 1
  lL : L.length = i
  ok : Ok b i
  d : ∀ k, k ≤ i → ((D.getD k 0 : Int) : Rat) = pb b k
  lr : ∀ j, j < i → (L.getD j []).length = j
  l : ∀ j k, j < i → k < j → (((L.getD j []).getD k 0 : Int) : Rat) = pb b k * Mr (gR b) k j k
theorem fdiv_exact {x d z : Int} (hd : d ≠ 0) (h : x = d * z) : Int.fdiv x d = z := by subst h; exact Int.mul_fdiv_cancel_left z hd
theorem step_exact {b : List (List Int)} {D Lr row : List Int} {i j k : Nat} {u : Int} (hok : Ok b (k + 1)) (h0 : ((D.getD k 0 : Int) : Rat) = pb b k) (h1 : ((D.getD (k + 1) 0 : Int) : Rat) = pb b (k + 1)) (hu : ((u : Int) : Rat) = pb b k * Mr (gR b) k i j) (hr : ((row.getD k 0 : Int) : Rat) = pb b k * Mr (gR b) k i k) (hl : ((Lr.getD k 0 : Int) : Rat) = pb b k * Mr (gR b) k j k) : ((stepU D Lr row k u : Int) : Rat) = pb b (k + 1) * Mr (gR b) (k + 1) i j := by
  obtain ⟨z, hz⟩ := minor_int (gR_int b) (k := k + 1) (fun s hs => ok_ne hok hs) i j
  have hp := rat_pos_ne (pb_pos hok k (by omega))
  have hm := ok_ne hok (Nat.lt_succ_self k)
  have e : D.getD (k + 1) 0 * u - row.getD k 0 * Lr.getD k 0 = D.getD k 0 * z := by
    refine Rat.intCast_inj.1 ?_
    rw [Rat.intCast_sub, Rat.intCast_mul, Rat.intCast_mul, Rat.intCast_mul, h0, h1, hu, hr, hl, ← hz]
    show pb b (k + 1) * (pb b k * Mr (gR b) k i j) - pb b k * Mr (gR b) k i k * (pb b k * Mr (gR b) k j k) = pb b k * (pb b (k + 1) * (Mr (gR b) k i j + -(Mr (gR b) k i k / Mr (gR b) k k k) * Mr (gR b) k k j))
    rw [pb_succ, mr_symm (gR_symm b) k k j]
    generalize Mr (gR b) k k k = m at hm
    generalize Mr (gR b) k i k = x
    generalize Mr (gR b) k j k = y
    generalize pb b k = p at hp
    grind
  have hd : D.getD k 0 ≠ 0 := fun e0 => by rw [e0] at h0; exact hp h0.symm
  unfold stepU
  rw [fdiv_exact hd e, hz]
theorem red_exact {b : List (List Int)} {D : List Int} {L : List (List Int)} {row : List Int} {i j : Nat} (h : DI b i D L) (hji : j ≤ i) (hr : ∀ k, k < j → ((row.getD k 0 : Int) : Rat) = pb b k * Mr (gR b) k i k) : ∀ k, k ≤ j → ((redU D (pickL L row i j) row (gU b i j) k : Int) : Rat) = pb b k * Mr (gR b) k i j
  | 0, _ => by show ((gU b i j : Int) : Rat) = 1 * ((gU b i j : Int) : Rat); grind
  | k + 1, hk => by
    refine step_exact (fun s hs => h.ok s (by omega)) (h.d k (by omega)) (h.d (k + 1) (by omega)) (red_exact h hji hr k (by omega)) (hr k (by omega)) ?_
    unfold pickL
    split
    · exact h.l j k (by assumption) (by omega)
    · have : j = i := by omega
      subst this; exact hr k (by omega)
theorem row_len {b : List (List Int)} {D : List Int} {L : List (List Int)} {i : Nat} : ∀ j, (rowU b D L i j).length = j
  | 0 => rfl
  | j + 1 => by unfold rowU; rw [List.length_append, row_len j]; rfl
theorem row_exact {b : List (List Int)} {D : List Int} {L : List (List Int)} {i : Nat} (h : DI b i D L) : ∀ j, j ≤ i + 1 → ∀ k, k < j → (((rowU b D L i j).getD k 0 : Int) : Rat) = pb b k * Mr (gR b) k i k
  | 0, _, k, hk => absurd hk (Nat.not_lt_zero _)
  | j + 1, hj, k, hk => by
    unfold rowU
    rcases Nat.lt_or_ge k j with h1 | h1
    · rw [gl_lt (by rw [row_len]; exact h1)]; exact row_exact h j (by omega) k h1
    · rw [gl_eq (by rw [row_len]; omega), show k = j by omega]
      exact red_exact h (by omega) (fun k hk => row_exact h j (by omega) k hk) j (Nat.le_refl _)
theorem row_pos {b : List (List Int)} {D : List Int} {L : List (List Int)} {i : Nat} (h : DI b i D L) : 0 < (rowU b D L i (i + 1)).getD i 0 ↔ 0 < Mr (gR b) i i i := by
  have e := row_exact h (i + 1) (Nat.le_refl _) i (Nat.lt_succ_self i)
  have hp := pb_pos h.ok i (Nat.le_refl _)
  rw [← Rat.intCast_lt_intCast, e]
  show (0 : Rat) < _ ↔ _
  constructor
  · intro h1
    by_cases h2 : 0 < Mr (gR b) i i i
    · exact h2
    · exfalso
      replace h2 := Rat.not_lt.1 h2
      have := Rat.mul_le_mul_of_nonneg_left h2 (Rat.le_of_lt hp)
      rw [Rat.mul_zero] at this
      exact absurd h1 (Rat.not_lt.2 this)
  · exact Rat.mul_pos hp
theorem DI.zero (b : List (List Int)) : DI b 0 [1] [] := ⟨rfl, rfl, fun k hk => absurd hk (Nat.not_lt_zero _), fun k hk => by rw [show k = 0 by omega]; rfl, fun j hj => absurd hj (Nat.not_lt_zero _), fun j k hj => absurd hj (Nat.not_lt_zero _)⟩
theorem DI.step {b : List (List Int)} {D : List Int} {L : List (List Int)} {i : Nat} (h : DI b i D L) (hp : 0 < (rowU b D L i (i + 1)).getD i 0) : DI b (i + 1) (D ++ [(rowU b D L i (i + 1)).getD i 0]) (L ++ [(rowU b D L i (i + 1)).take i]) := by
  have hm := (row_pos h).1 hp
  have hr := row_exact h (i + 1) (Nat.le_refl _)
  refine ⟨by rw [List.length_append, h.lD]; rfl, by rw [List.length_append, h.lL]; rfl, fun k hk => ?_, fun k hk => ?_, fun j hj => ?_, fun j k hj hk => ?_⟩
  · rcases Nat.lt_or_ge k i with h1 | h1
    · exact h.ok k h1
    · rw [show k = i by omega]; exact hm
  · rcases Nat.lt_or_ge k (i + 1) with h1 | h1
    · rw [gl_lt (by rw [h.lD]; exact h1)]; exact h.d k (by omega)
    · rw [gl_eq (by rw [h.lD]; omega), show k = i + 1 by omega, hr i (Nat.lt_succ_self i), pb_succ]
  · rcases Nat.lt_or_ge j i with h1 | h1
    · rw [gl_lt (by rw [h.lL]; exact h1)]; exact h.lr j h1
    · rw [gl_eq (by rw [h.lL]; omega), List.length_take, row_len]; omega
  · rcases Nat.lt_or_ge j i with h1 | h1
    · rw [gl_lt (by rw [h.lL]; exact h1)]; exact h.l j k h1 hk
    · rw [gl_eq (by rw [h.lL]; omega), take_getD (by omega), hr k (by omega), show j = i by omega]
theorem bld_DI {b : List (List Int)} : ∀ {i : Nat} {D : List Int} {L : List (List Int)}, bld b i = some (D, L) → DI b i D L
  | 0, D, L, h => by cases h; exact DI.zero b
  | i + 1, D, L, h => by
    obtain ⟨D', L', h1, h2, h3⟩ := bld_prev h
    cases h3
    exact (bld_DI h1).step h2
theorem bld_of_ok {b : List (List Int)} : ∀ {i : Nat}, Ok b i → ∃ D L, bld b i = some (D, L)
  | 0, _ => ⟨_, _, rfl⟩
  | i + 1, h => by
    obtain ⟨D, L, hD⟩ := bld_of_ok (i := i) (fun k hk => h k (by omega))
    have hp := (row_pos (bld_DI hD)).2 (h i (Nat.lt_succ_self i))
    refine ⟨D ++ [(rowU b D L i (i + 1)).getD i 0], L ++ [(rowU b D L i (i + 1)).take i], ?_⟩
    show (match bld b i with | none => none | some (D, L) => if (rowU b D L i (i + 1)).getD i 0 ≤ 0 then none else some (D ++ [(rowU b D L i (i + 1)).getD i 0], L ++ [(rowU b D L i (i + 1)).take i])) = _
    rw [hD]
    simp only
    rw [if_neg (Int.not_le.2 hp)]
end Go.Proofs.YtmfgnbchehnpjaaGreat.V
/- The data of rows, and what refuses them. -/
set_option linter.unusedVariables false
set_option linter.unusedSimpArgs false
set_option maxRecDepth 100000
namespace Go.Proofs.YtmfgnbchehnpjaaGreat.V
open Go.RowKit Mt Nml
theorem r05_shape_t {b : List (List Int)} {k : Nat} {r : Int} (hk : k ≤ 1048576) (hbl : b.length ≤ 1048576) (hrr : ∀ i, i < b.length → (b.getD i []).length ≤ 1048576) (hR : ShR b true r) : Fn Tryz.prog 37 [T.l (cL (cZi k)) b, T.c (.bool true)] [] [] [] (T.c (.int .i64 r)) := by
  refine fn_of Tryz.func37 rfl (by show 2 ≤ 64; decide) fun cx hcx => ?_
  refine tri_sub (sl 0 rfl (sl 1 rfl sn)) en ?_
  refine tri_seq ?_
  refine tri_reg mixed hcx ?_ _ _
  refine asg rfl ?_
  refine ⟨by kernel_rfl, ?_⟩
  refine nx (sl 0 rfl (sl 1 rfl sn)) en ?_
  refine tri_seq ?_
  refine tri_seq ?_
  refine tri_reg mixed hcx ?_ _ _
  refine mv rfl ?_
  refine ln slZss rfl ?_
  refine cgt rfl rfl rfl ?_
  refine ⟨by kernel_rfl, ?_⟩
  refine nx (sl 0 rfl (sl 1 rfl (sl 10 rfl sn))) en ?_
  refine tri_if rfl (fun h1 => ?_) (fun h1 => ?_)
  · refine tri_seq ?_
    refine tri_reg mixed hcx ?_ _ _
    refine asg rfl ?_
    refine ⟨by kernel_rfl, ?_⟩
    refine nx (sl 4 rfl sn) en ?_
    refine tri_ret ?_
    repeat (first | refine pn_thenr ?_ | refine pn_blkr ?_)
    exact ret1 hcx rfl (rv_tmp rfl) (ci (hR.big (.inl (by omega))).symm) en
  · refine tri_skip ?_
    refine nx (sl 0 rfl (sl 1 rfl sn)) en ?_
    refine tri_seq ?_
    refine tri_seq ?_
    refine tri_reg mixed hcx ?_ _ _
    refine asg rfl ?_
    refine ⟨by kernel_rfl, ?_⟩
    refine nx (sl 0 rfl (sl 1 rfl (sl 5 rfl sn))) en ?_
    refine tri_block ?_
    refine tri_loop (ι := Nat) (fun i => [(0, T.l (cL (cZi k)) b), (1, T.c (.bool true)), (5, T.c (.int .i64 (i : Int)))]) (fun i => []) (fun i => b.length - i) (fun i => (i ≤ b.length) ∧ (∀ j, j < i → (b.getD j []).length ≤ 12 ∧ (true = true → ∀ k2, k2 < (b.getD j []).length → nbits ((b.getD j []).getD k2 0).natAbs ≤ 256))) 0 ⟨Nat.zero_le _, fun j hj => absurd hj (Nat.not_lt_zero _)⟩ (sl 0 rfl (sl 1 rfl (sl 5 rfl sn))) en ?_
    rintro i ⟨hi, hA⟩
    refine tri_sub (sl 0 rfl (sl 1 rfl (sl 5 rfl sn))) en ?_
    refine tri_seq ?_
    refine tri_seq ?_
    refine tri_reg mixed hcx ?_ _ _
    refine mv rfl ?_
    refine mv rfl ?_
    refine ln slZss rfl ?_
    refine clt rfl rfl rfl ?_
    refine ⟨by kernel_rfl, ?_⟩
    refine nx (sl 0 rfl (sl 1 rfl (sl 5 rfl (sl 14 rfl sn)))) en ?_
    refine tri_if rfl (fun hc => ?_) (fun hc => ?_)
    · have hmi : (b.getD i (cL (cZi k)).dflt).length ≤ 1048576 := hrr i (by omega)
      have hmi2 : (b.getD i []).length ≤ 1048576 := hmi
      refine tri_skip ?_
      refine nx (sl 0 rfl (sl 1 rfl (sl 5 rfl sn))) en ?_
      refine tri_seq ?_
      refine tri_block ?_
      refine tri_seq ?_
      refine tri_seq ?_
      refine tri_reg mixed hcx ?_ _ _
      refine mv rfl ?_
      refine mv rfl ?_
      refine ix rfl rfl slZss ⟨rfl, by omega⟩ ?_
      refine lf rfl tyZs ?_
      refine ln slZs rfl ?_
      refine cgt rfl rfl rfl ?_
      refine ⟨by kernel_rfl, ?_⟩
      refine nx (sl 0 rfl (sl 1 rfl (sl 5 rfl (sl 22 rfl sn)))) en ?_
      refine tri_if rfl (fun h2 => ?_) (fun h2 => ?_)
      · refine tri_seq ?_
        refine tri_reg mixed hcx ?_ _ _
        refine asg rfl ?_
        refine ⟨by kernel_rfl, ?_⟩
        refine nx (sl 4 rfl sn) en ?_
        refine tri_ret ?_
        repeat (first | refine pn_thenr ?_ | refine pn_blkr ?_)
        exact ret1 hcx rfl (rv_tmp rfl) (ci (hR.big (.inr (.inr ⟨i, by omega, by have : 12 < ((b.getD i []).length : Int) := h2; omega⟩))).symm) en
      · have h2b : ¬ 12 < ((b.getD i []).length : Int) := h2
        refine tri_skip ?_
        refine nx (sl 0 rfl (sl 1 rfl (sl 5 rfl sn))) en ?_
        refine tri_seq ?_
        refine tri_reg mixed hcx ?_ _ _
        refine asg rfl ?_
        refine ⟨by kernel_rfl, ?_⟩
        refine nx (sl 0 rfl (sl 1 rfl (sl 5 rfl (sl 6 rfl sn)))) en ?_
        refine tri_block ?_
        refine tri_loop (ι := Nat) (fun e => [(0, T.l (cL (cZi k)) b), (1, T.c (.bool true)), (5, T.c (.int .i64 (i : Int))), (6, T.c (.int .i64 (e : Int)))]) (fun e => []) (fun e => (b.getD i []).length - e) (fun e => (e ≤ (b.getD i []).length) ∧ (true = true → ∀ k2, k2 < e → nbits ((b.getD i []).getD k2 0).natAbs ≤ 256)) 0 ⟨Nat.zero_le _, fun _ k2 hk2 => absurd hk2 (Nat.not_lt_zero _)⟩ (sl 0 rfl (sl 1 rfl (sl 5 rfl (sl 6 rfl sn)))) en ?_
        rintro e ⟨he, hB⟩
        refine tri_sub (sl 0 rfl (sl 1 rfl (sl 5 rfl (sl 6 rfl sn)))) en ?_
        refine tri_seq ?_
        refine tri_seq ?_
        refine tri_reg mixed hcx ?_ _ _
        refine mv rfl ?_
        refine mv rfl ?_
        refine mv rfl ?_
        refine ix rfl rfl slZss ⟨rfl, by omega⟩ ?_
        refine lf rfl tyZs ?_
        refine ln slZs rfl ?_
        refine clt rfl rfl rfl ?_
        refine ⟨by kernel_rfl, ?_⟩
        refine nx (sl 0 rfl (sl 1 rfl (sl 5 rfl (sl 6 rfl (sl 29 rfl sn))))) en ?_
        refine tri_if rfl (fun h3 => ?_) (fun h3 => ?_)
        · have h3b : (e : Int) < ((b.getD i []).length : Int) := h3
          refine tri_skip ?_
          refine nx (sl 0 rfl (sl 1 rfl (sl 5 rfl (sl 6 rfl sn)))) en ?_
          refine tri_seq ?_
          refine tri_block ?_
          refine tri_seq ?_
          refine tri_reg mixed hcx ?_ _ _
          refine mv rfl ?_
          refine mv rfl ?_
          refine mv rfl ?_ (hg := gd1)
          refine mv rfl ?_ (hg := gd1)
          refine ix rfl rfl slZss ⟨rfl, by omega⟩ ?_ (hg := gd1)
          refine lf rfl tyZs ?_ (hg := gd1)
          refine mv rfl ?_ (hg := gd1)
          refine ix rfl rfl slZs ⟨rfl, by omega⟩ ?_ (hg := gd1)
          refine ff rfl fMag rfl ?_ (hg := gd1)
          refine lf rfl tyLs ?_ (hg := gd1)
          refine ca rfl (h := r01_Bits (by omega)) (hn := ?_) (hg := gd1)
          refine cgt rfl rfl rfl ?_ (hg := gd1)
          refine pk rfl rfl ?_
          refine ⟨by kernel_rfl, ?_⟩
          refine nx (sl 0 rfl (sl 1 rfl (sl 5 rfl (sl 6 rfl (sl 44 rfl sn))))) en ?_
          refine tri_if rfl (fun h4b => ?_) (fun h4b => ?_)
          · refine tri_seq ?_
            refine tri_reg mixed hcx ?_ _ _
            refine asg rfl ?_
            refine ⟨by kernel_rfl, ?_⟩
            refine nx (sl 4 rfl sn) en ?_
            refine tri_ret ?_
            repeat (first | refine pn_thenr ?_ | refine pn_blkr ?_)
            exact ret1 hcx rfl (rv_tmp rfl) (ci (hR.big (.inr (.inl ⟨rfl, Nat.lt_of_lt_of_le (show 256 < nbits ((b.getD i []).getD e 0).natAbs by have : 256 < ((nbits ((b.getD i []).getD e 0).natAbs : Nat) : Int) := h4b; omega) (matB_at (by omega) (by omega))⟩))).symm) en
          · have h4 : nbits ((b.getD i []).getD e 0).natAbs ≤ 256 := by have : ¬ 256 < ((nbits ((b.getD i []).getD e 0).natAbs : Nat) : Int) := h4b; omega
            refine tri_skip ?_
            refine pn_blk ?_
            refine nx (sl 0 rfl (sl 1 rfl (sl 5 rfl (sl 6 rfl sn)))) en ?_
            refine tri_reg mixed hcx ?_ _ _
            refine mv rfl ?_
            refine ad (((e + 1 : Nat) : Int)) rfl rfl rfl (by omega) ?_
            refine asg rfl ?_
            refine ⟨by kernel_rfl, ?_⟩
            exact pn_back (e + 1) (by first | omega | (dsimp only; omega)) ⟨by omega, fun hq2 k2 hk2 => by rcases Nat.lt_or_eq_of_le (Nat.le_of_lt_succ hk2) with h8 | h8; exact hB hq2 k2 h8; subst h8; exact h4⟩ (sl 0 rfl (sl 1 rfl (sl 5 rfl (sl 6 rfl sn)))) en
        · refine tri_exit ?_
          repeat (first | refine pn_then ?_ | refine pn_oth (by decide) ?_)
          refine pn_ex ?_
          have h5 : ¬ (e : Int) < ((b.getD i []).length : Int) := h3
          refine pn_blk ?_
          refine nx (sl 0 rfl (sl 1 rfl (sl 5 rfl sn))) en ?_
          refine tri_reg mixed hcx ?_ _ _
          refine mv rfl ?_
          refine ad (((i + 1 : Nat) : Int)) rfl rfl rfl (by omega) ?_
          refine asg rfl ?_
          refine ⟨by kernel_rfl, ?_⟩
          exact pn_back (i + 1) (by first | omega | (dsimp only; omega)) ⟨by omega, fun j hj => by rcases Nat.lt_or_eq_of_le (Nat.le_of_lt_succ hj) with h8 | h8; exact hA j h8; subst h8; exact ⟨by omega, fun hq k2 hk2 => hB hq k2 (by omega)⟩⟩ (sl 0 rfl (sl 1 rfl (sl 5 rfl sn))) en
    · refine tri_exit ?_
      repeat (first | refine pn_then ?_ | refine pn_oth (by decide) ?_)
      refine pn_ex ?_
      have hin : i = b.length := by omega
      subst hin
      have hnb : ¬ BigB b true := by rintro (h7 | ⟨h7, h8⟩ | ⟨j, h7, h8⟩); omega; exact absurd (matB_le (N := 256) (n := b.length) fun i hi => (hA i hi).2 h7) (by omega); have := (hA j h7).1; omega
      refine nx (sl 0 rfl sn) en ?_
      refine tri_seq ?_
      refine tri_seq ?_
      refine tri_reg mixed hcx ?_ _ _
      refine mv rfl ?_
      refine ln slZss rfl ?_
      refine ceq rfl rfl rfl ?_
      refine ⟨by kernel_rfl, ?_⟩
      refine nx (sl 0 rfl (sl 47 rfl sn)) en ?_
      refine tri_if rfl (fun h6 => ?_) (fun h6 => ?_)
      · refine tri_seq ?_
        refine tri_reg mixed hcx ?_ _ _
        refine asg rfl ?_
        refine ⟨by kernel_rfl, ?_⟩
        refine nx (sl 4 rfl sn) en ?_
        refine tri_ret ?_
        repeat (first | refine pn_thenr ?_ | refine pn_blkr ?_)
        exact ret1 hcx rfl (rv_tmp rfl) (ci (hR.nil hnb (by omega)).symm) en
      · refine tri_skip ?_
        refine nx (sl 0 rfl sn) en ?_
        refine tri_seq ?_
        refine tri_seq ?_
        refine tri_reg mixed hcx ?_ _ _
        refine asg rfl ?_
        refine ⟨by kernel_rfl, ?_⟩
        refine nx (sl 0 rfl (sl 7 rfl sn)) en ?_
        refine tri_block ?_
        refine tri_loop (ι := Nat) (fun i => [(0, T.l (cL (cZi k)) b), (7, T.c (.int .i64 (i : Int)))]) (fun i => []) (fun i => b.length - i) (fun i => (i ≤ b.length) ∧ (∀ j, j < i → (b.getD j []).length = (b.getD 0 []).length)) 0 ⟨Nat.zero_le _, fun j hj => absurd hj (Nat.not_lt_zero _)⟩ (sl 0 rfl (sl 7 rfl sn)) en ?_
        rintro i ⟨hi, hC⟩
        refine tri_sub (sl 0 rfl (sl 7 rfl sn)) en ?_
        refine tri_seq ?_
        refine tri_seq ?_
        refine tri_reg mixed hcx ?_ _ _
        refine mv rfl ?_
        refine mv rfl ?_
        refine ln slZss rfl ?_
        refine clt rfl rfl rfl ?_
        refine ⟨by kernel_rfl, ?_⟩
        refine nx (sl 0 rfl (sl 7 rfl (sl 51 rfl sn))) en ?_
        refine tri_if rfl (fun hd => ?_) (fun hd => ?_)
        · have hmi : (b.getD i (cL (cZi k)).dflt).length ≤ 1048576 := hrr i (by omega)
          have hm0 : (b.getD 0 (cL (cZi k)).dflt).length ≤ 1048576 := hrr 0 (by omega)
          refine tri_skip ?_
          refine nx (sl 0 rfl (sl 7 rfl sn)) en ?_
          refine tri_seq ?_
          refine tri_block ?_
          refine tri_seq ?_
          refine tri_reg mixed hcx ?_ _ _
          refine mv rfl ?_
          refine mv rfl ?_
          refine ix rfl rfl slZss ⟨rfl, by omega⟩ ?_
          refine lf rfl tyZs ?_
          refine ln slZs rfl ?_
          refine mv rfl ?_
          refine ix rfl rfl slZss ⟨(rfl : _ = ((0 : Nat) : Int)), by omega⟩ ?_
          refine lf rfl tyZs ?_
          refine ln slZs rfl ?_
          refine cne rfl rfl rfl ?_
          refine ⟨by kernel_rfl, ?_⟩
          refine nx (sl 0 rfl (sl 7 rfl (sl 63 rfl sn))) en ?_
          refine tri_if rfl (fun h10 => ?_) (fun h10 => ?_)
          · refine tri_seq ?_
            refine tri_reg mixed hcx ?_ _ _
            refine asg rfl ?_
            refine ⟨by kernel_rfl, ?_⟩
            refine nx (sl 4 rfl sn) en ?_
            refine tri_ret ?_
            repeat (first | refine pn_thenr ?_ | refine pn_blkr ?_)
            exact ret1 hcx rfl (rv_tmp rfl) (ci (hR.bad hnb (by omega) ⟨i, by omega, fun e => h10 (congrArg (fun n : Nat => (n : Int)) e)⟩).symm) en
          · have h11 : (b.getD i []).length = (b.getD 0 []).length := Int.ofNat_inj.1 (Decidable.not_not.1 h10)
            refine tri_skip ?_
            refine pn_blk ?_
            refine nx (sl 0 rfl (sl 7 rfl sn)) en ?_
            refine tri_reg mixed hcx ?_ _ _
            refine mv rfl ?_
            refine ad (((i + 1 : Nat) : Int)) rfl rfl rfl (by omega) ?_
            refine asg rfl ?_
            refine ⟨by kernel_rfl, ?_⟩
            exact pn_back (i + 1) (by first | omega | (dsimp only; omega)) ⟨by omega, fun j hj => by rcases Nat.lt_or_eq_of_le (Nat.le_of_lt_succ hj) with h8 | h8; exact hC j h8; subst h8; exact h11⟩ (sl 0 rfl (sl 7 rfl sn)) en
        · refine tri_exit ?_
          repeat (first | refine pn_then ?_ | refine pn_oth (by decide) ?_)
          refine pn_ex ?_
          have hin : i = b.length := by omega
          subst hin
          refine nx sn en ?_
          refine tri_seq ?_
          refine tri_reg mixed hcx ?_ _ _
          refine asg rfl ?_
          refine ⟨by kernel_rfl, ?_⟩
          refine nx (sl 4 rfl sn) en ?_
          refine tri_ret ?_
          repeat (first | refine pn_thenr ?_ | refine pn_blkr ?_)
          exact ret1 hcx rfl (rv_tmp rfl) (ci (hR.ok hnb (by omega) (fun ⟨j, h8, h9⟩ => h9 (hC j h8))).symm) en

theorem g_built_no {b : List (List Int)} {kb m S K : Nat} (h : bld b b.length = none) (hbl : b.length ≤ 12) (hm : ∀ i, i < b.length → (b.getD i []).length = m) (hmm : m ≤ 1048576) (hkb : kb ≤ 1048576) (hS : ∀ i j, i < b.length → j ≤ i → zl (dotU (b.getD i []) (b.getD j []) (b.getD i []).length) ≤ S) (hK1 : bd S 12 ≤ K) (hK2 : K ≤ 137438953472) (hK3 : 2 ≤ K) : Fn Tryz.prog 49 [T.l (cL (cZi kb)) b] [] [] [] (T.tup [T.st [T.c (.slice none 0 0), T.c (.slice none 0 0)], T.c (.bool false)]) := by
  refine fn_of Tryz.func49 rfl (by show 1 ≤ 114; decide) fun cx hcx => ?_
  refine tri_sub (sl 0 rfl sn) en ?_
  have hmb : ∀ i, i < b.length → zl (dotU (b.getD i []) (b.getD i []) (b.getD i []).length) ≤ S := fun i hi => hS i i hi (Nat.le_refl _)
  have hSK : S ≤ K := Nat.le_trans (by have := bd_mono (S := S) (Nat.zero_le 12); rwa [bd_zero] at this) hK1
  refine tri_seq ?_
  refine tri_reg mixed hcx ?_ _ _
  refine nw 10 zeG ?_
  refine asg rfl ?_
  refine ⟨by kernel_rfl, ?_⟩
  refine nx (sl 0 rfl (sl 2 rfl sn)) (el 10 rfl en) ?_
  refine tri_seq ?_
  refine tri_reg mixed hcx ?_ _ _
  refine ca rfl (h := zi_Of (by omega) (by omega)) (hn := ?_)
  refine bso (c := cZ K) (xs := [1]) 111 slZs rfl ⟨z_up (by omega), trivial⟩ ?_
  refine bu stG rfl ?_
  refine nw 113 zeG ?_
  refine sts rfl rfl rfl tyG rfl ?_
  refine ⟨by kernel_rfl, ?_⟩
  refine nx (sl 0 rfl (sl 2 rfl (sl 4 rfl sn))) (el 10 rfl (el 111 rfl (el 113 rfl (el 113 rfl en)))) ?_
  refine tri_seq ?_
  refine tri_seq ?_
  refine tri_nilb (cL (cZ K)) 38 (bl := [T.o 111, T.c (.slice none 0 0)]) (bl' := [T.o 111, T.o 9]) 113 9 rfl ⟨.inl ⟨rfl, by show 9 ∉ [111]; decide⟩, .inr ⟨rfl, rfl⟩, trivial⟩ (by rw [hcx]; kernel_rfl) ?_
  refine tri_reg mixed hcx ?_ _ _
  refine mv rfl ?_
  refine ln slZss rfl ?_
  refine mv rfl ?_
  refine ⟨by kernel_rfl, ?_⟩
  refine nx (sl 0 rfl (sl 2 rfl (sl 4 rfl (sl 16 rfl (sl 17 rfl sn))))) (el 10 rfl (el 111 rfl (el 113 rfl (el 113 rfl (el 9 rfl en))))) ?_
  refine tri_block ?_
  refine tri_loop (ι := Nat × List Int × List (List Int)) (fun (i, D, L) => [(0, T.l (cL (cZi kb)) b), (2, T.p 10 0), (4, T.p 113 0), (16, T.c (.int .i64 (b.length : Int))), (17, T.c (.int .i64 (i : Int)))]) (fun (i, D, L) => [(10, some (Ent.box 54 [T.c (.slice none 0 0), T.c (.slice none 0 0)])), (111, some (Ent.row (cZ K) 26 (D))), (9, some (Ent.row (cL (cZ K)) 38 (L))), (113, some (Ent.box 54 [T.o 111, T.o 9]))]) (fun (i, D, L) => b.length - i) (fun (i, D, L) => (i ≤ b.length) ∧ (bld b i = some (D, L)) ∧ (BI S i D L)) (0, [1], []) ⟨Nat.zero_le _, rfl, BI.zero S⟩ (sl 0 rfl (sl 2 rfl (sl 4 rfl (sl 16 rfl (sl 17 rfl sn))))) (el 10 rfl (el 111 rfl (el 9 rfl (el 113 rfl en)))) ?_
  rintro ⟨i, D, L⟩ ⟨hi, hb, hB⟩
  refine tri_sub (sl 0 rfl (sl 2 rfl (sl 4 rfl (sl 16 rfl (sl 17 rfl sn))))) (el 10 rfl (el 111 rfl (el 9 rfl (el 113 rfl en)))) ?_
  refine tri_seq ?_
  refine tri_reg mixed hcx ?_ _ _
  refine clt rfl rfl rfl ?_
  refine ⟨by kernel_rfl, ?_⟩
  refine nx (sl 0 rfl (sl 2 rfl (sl 4 rfl (sl 16 rfl (sl 17 rfl (sl 18 rfl sn)))))) (el 10 rfl (el 111 rfl (el 9 rfl (el 113 rfl en)))) ?_
  refine tri_seq ?_
  refine tri_if rfl (fun hc => ?_) (fun hc => ?_)
  · have hmi : (b.getD i (cL (cZi kb)).dflt).length = m := hm i (by omega)
    have hDl := hB.hD; have hLl := hB.hL
    refine tri_skip ?_
    refine nx (sl 0 rfl (sl 2 rfl (sl 4 rfl (sl 16 rfl (sl 17 rfl sn))))) (el 10 rfl (el 111 rfl (el 9 rfl (el 113 rfl en)))) ?_
    refine tri_seq ?_
    refine tri_block ?_
    refine tri_seq ?_
    refine tri_reg mixed hcx ?_ _ _
    refine mv rfl ?_
    refine asg rfl ?_
    refine ⟨by kernel_rfl, ?_⟩
    refine nx (sl 0 rfl (sl 2 rfl (sl 4 rfl (sl 5 rfl (sl 16 rfl (sl 17 rfl sn)))))) (el 10 rfl (el 111 rfl (el 9 rfl (el 113 rfl en)))) ?_
    refine tri_seq ?_
    refine tri_reg mixed hcx ?_ _ _
    refine mv rfl ?_
    refine ad (((i + 1 : Nat) : Int)) rfl rfl rfl (by omega) ?_
    refine mk0 (c := (cZ K)) (n := i + 1) 512 slZs rfl rfl (by omega) (by decide) ?_
    refine asg rfl ?_
    refine ⟨by kernel_rfl, ?_⟩
    refine nx (sl 0 rfl (sl 2 rfl (sl 4 rfl (sl 5 rfl (sl 6 rfl (sl 16 rfl (sl 17 rfl sn))))))) (el 10 rfl (el 111 rfl (el 9 rfl (el 113 rfl (el 512 rfl en))))) ?_
    refine tri_seq ?_
    refine tri_seq ?_
    refine tri_reg mixed hcx ?_ _ _
    refine asg rfl ?_
    refine ⟨by kernel_rfl, ?_⟩
    refine nx (sl 0 rfl (sl 2 rfl (sl 4 rfl (sl 5 rfl (sl 6 rfl (sl 7 rfl (sl 16 rfl (sl 17 rfl sn)))))))) (el 10 rfl (el 111 rfl (el 9 rfl (el 113 rfl (el 512 rfl en))))) ?_
    refine tri_block ?_
    refine tri_loop (ι := Nat) (fun j => [(0, T.l (cL (cZi kb)) b), (2, T.p 10 0), (4, T.p 113 0), (5, T.c (.int .i64 (i : Int))), (6, T.o 512), (7, T.c (.int .i64 (j : Int))), (16, T.c (.int .i64 (b.length : Int))), (17, T.c (.int .i64 (i : Int)))]) (fun j => [(10, some (Ent.box 54 [T.c (.slice none 0 0), T.c (.slice none 0 0)])), (111, some (Ent.row (cZ K) 26 (D))), (9, some (Ent.row (cL (cZ K)) 38 (L))), (113, some (Ent.box 54 [T.o 111, T.o 9])), (512, some (Ent.row (cZ K) 26 ((rowU b D L i j))))]) (fun j => i + 1 - j) (fun j => (j ≤ i + 1) ∧ (RI S j (rowU b D L i j))) 0 ⟨Nat.zero_le _, RI.zero S⟩ (sl 0 rfl (sl 2 rfl (sl 4 rfl (sl 5 rfl (sl 6 rfl (sl 7 rfl (sl 16 rfl (sl 17 rfl sn)))))))) (el 10 rfl (el 111 rfl (el 9 rfl (el 113 rfl (el 512 rfl en))))) ?_
    rintro j ⟨hj, hR⟩
    refine tri_sub (sl 0 rfl (sl 2 rfl (sl 4 rfl (sl 5 rfl (sl 6 rfl (sl 7 rfl (sl 16 rfl (sl 17 rfl sn)))))))) (el 10 rfl (el 111 rfl (el 9 rfl (el 113 rfl (el 512 rfl en))))) ?_
    refine tri_seq ?_
    refine tri_seq ?_
    refine tri_reg mixed hcx ?_ _ _
    refine mv rfl ?_
    refine mv rfl ?_
    refine cle rfl rfl rfl ?_
    refine ⟨by kernel_rfl, ?_⟩
    refine nx (sl 0 rfl (sl 2 rfl (sl 4 rfl (sl 5 rfl (sl 6 rfl (sl 7 rfl (sl 16 rfl (sl 17 rfl (sl 25 rfl sn))))))))) (el 10 rfl (el 111 rfl (el 9 rfl (el 113 rfl (el 512 rfl en))))) ?_
    refine tri_if rfl (fun hd => ?_) (fun hd => ?_)
    · have hmj : (b.getD j (cL (cZi kb)).dflt).length = m := hm j (by omega)
      have hRl := hR.len
      refine tri_skip ?_
      refine nx (sl 0 rfl (sl 2 rfl (sl 4 rfl (sl 5 rfl (sl 6 rfl (sl 7 rfl (sl 16 rfl (sl 17 rfl sn)))))))) (el 10 rfl (el 111 rfl (el 9 rfl (el 113 rfl (el 512 rfl en))))) ?_
      refine tri_seq ?_
      refine tri_block ?_
      refine tri_seq ?_
      refine tri_reg mixed hcx ?_ _ _
      refine mv rfl ?_
      refine mv rfl ?_
      refine ix rfl rfl slZss ⟨rfl, by omega⟩ ?_
      refine lf rfl tyZs ?_
      refine mv rfl ?_
      refine mv rfl ?_
      refine ix rfl rfl slZss ⟨rfl, by omega⟩ ?_
      refine lf rfl tyZs ?_
      refine ca rfl (h := mat_Dot (by omega) (by omega) (by omega) (by omega)) (hn := ?_)
      refine mv rfl ?_
      refine ex rfl rfl ?_
      refine ex rfl rfl ?_
      refine nw 922 zeZ ?_
      refine st rfl rfl rfl tyZ rfl ?_
      refine asg rfl ?_
      refine ⟨by kernel_rfl, ?_⟩
      refine nx (sl 0 rfl (sl 2 rfl (sl 4 rfl (sl 5 rfl (sl 6 rfl (sl 7 rfl (sl 8 rfl (sl 16 rfl (sl 17 rfl sn))))))))) (el 10 rfl (el 111 rfl (el 9 rfl (el 113 rfl (el 512 rfl (el 922 rfl en)))))) ?_
      refine tri_seq ?_
      refine tri_seq ?_
      refine tri_bz 922 rfl fun hz0 => ?_
      have hzS : zl (dotU (b.getD i []) (b.getD j []) (b.getD i []).length) ≤ S := hS i j (by omega) (by omega)
      refine tri_reg mixed hcx ?_ _ _
      refine asg rfl ?_
      refine ⟨by kernel_rfl, ?_⟩
      refine nx (sl 0 rfl (sl 2 rfl (sl 4 rfl (sl 5 rfl (sl 6 rfl (sl 7 rfl (sl 8 rfl (sl 10 rfl (sl 16 rfl (sl 17 rfl sn)))))))))) (el 10 rfl (el 111 rfl (el 9 rfl (el 113 rfl (el 512 rfl (el 922 rfl en)))))) ?_
      refine tri_block ?_
      refine tri_loop (ι := Nat) (fun q => [(0, T.l (cL (cZi kb)) b), (2, T.p 10 0), (4, T.p 113 0), (5, T.c (.int .i64 (i : Int))), (6, T.o 512), (7, T.c (.int .i64 (j : Int))), (8, T.p 922 0), (10, T.c (.int .i64 (q : Int))), (16, T.c (.int .i64 (b.length : Int))), (17, T.c (.int .i64 (i : Int)))]) (fun q => [(10, some (Ent.box 54 [T.c (.slice none 0 0), T.c (.slice none 0 0)])), (111, some (Ent.row (cZ K) 26 (D))), (9, some (Ent.row (cL (cZ K)) 38 (L))), (113, some (Ent.box 54 [T.o 111, T.o 9])), (512, some (Ent.row (cZ K) 26 ((rowU b D L i j)))), (922, some (Ent.box 26 [T.Z (redU D (pickL L (rowU b D L i j) i j) (rowU b D L i j) (dotU (b.getD i []) (b.getD j []) (b.getD i []).length) q) K]))]) (fun q => j - q) (fun q => (q ≤ j)) 0 (Nat.zero_le _) (sl 0 rfl (sl 2 rfl (sl 4 rfl (sl 5 rfl (sl 6 rfl (sl 7 rfl (sl 8 rfl (sl 10 rfl (sl 16 rfl (sl 17 rfl sn)))))))))) (el 10 rfl (el 111 rfl (el 9 rfl (el 113 rfl (el 512 rfl (ew 922 rfl (box_pack1 (show (T.Z _ _).le (T.Z (dotU (b.getD i []) (b.getD j []) (b.getD i []).length) K) from z_as (Nat.le_trans hzS hSK))) en)))))) ?_
      rintro q hq
      refine tri_sub (sl 0 rfl (sl 2 rfl (sl 4 rfl (sl 5 rfl (sl 6 rfl (sl 7 rfl (sl 8 rfl (sl 10 rfl (sl 16 rfl (sl 17 rfl sn)))))))))) (el 10 rfl (el 111 rfl (el 9 rfl (el 113 rfl (el 512 rfl (el 922 rfl en)))))) ?_
      refine tri_seq ?_
      refine tri_seq ?_
      refine tri_reg mixed hcx ?_ _ _
      refine mv rfl ?_
      refine mv rfl ?_
      refine clt rfl rfl rfl ?_
      refine ⟨by kernel_rfl, ?_⟩
      refine nx (sl 0 rfl (sl 2 rfl (sl 4 rfl (sl 5 rfl (sl 6 rfl (sl 7 rfl (sl 8 rfl (sl 10 rfl (sl 16 rfl (sl 17 rfl (sl 42 rfl sn))))))))))) (el 10 rfl (el 111 rfl (el 9 rfl (el 113 rfl (el 512 rfl (el 922 rfl en)))))) ?_
      refine tri_if rfl (fun he => ?_) (fun he => ?_)
      · have hDq : D.getD q (cZ K).dflt ≠ 0 := Int.ne_of_gt (hB.pos q (by omega))
        refine tri_skip ?_
        refine nx (sl 0 rfl (sl 2 rfl (sl 4 rfl (sl 5 rfl (sl 6 rfl (sl 7 rfl (sl 8 rfl (sl 10 rfl (sl 16 rfl (sl 17 rfl sn)))))))))) (el 10 rfl (el 111 rfl (el 9 rfl (el 113 rfl (el 512 rfl (el 922 rfl en)))))) ?_
        refine tri_seq ?_
        refine tri_block ?_
        refine tri_seq ?_
        refine tri_reg mixed hcx ?_ _ _
        refine mv rfl ?_
        refine asg rfl ?_
        refine ⟨by kernel_rfl, ?_⟩
        refine nx (sl 0 rfl (sl 2 rfl (sl 4 rfl (sl 5 rfl (sl 6 rfl (sl 7 rfl (sl 8 rfl (sl 10 rfl (sl 11 rfl (sl 16 rfl (sl 17 rfl sn))))))))))) (el 10 rfl (el 111 rfl (el 9 rfl (el 113 rfl (el 512 rfl (el 922 rfl en)))))) ?_
        refine tri_seq ?_
        refine tri_seq ?_
        refine tri_reg mixed hcx ?_ _ _
        refine mv rfl ?_
        refine mv rfl ?_
        refine clt rfl rfl rfl ?_
        refine ⟨by kernel_rfl, ?_⟩
        refine nx (sl 0 rfl (sl 2 rfl (sl 4 rfl (sl 5 rfl (sl 6 rfl (sl 7 rfl (sl 8 rfl (sl 10 rfl (sl 11 rfl (sl 16 rfl (sl 17 rfl (sl 48 rfl sn)))))))))))) (el 10 rfl (el 111 rfl (el 9 rfl (el 113 rfl (el 512 rfl (el 922 rfl en)))))) ?_
        refine tri_if rfl (fun hf => ?_) (fun hf => ?_)
        · have hLj : (L.getD j (cL (cZ K)).dflt).length = j := hB.lL j (by omega)
          refine tri_reg mixed hcx ?_ _ _
          refine fa rfl fL 1 ?_
          refine ld rfl rfl tyZss rfl ?_
          refine mv rfl ?_
          refine ixo rfl rfl rfl slZss ⟨rfl, by omega⟩ ?_
          refine lo _ rfl rfl tyZs ⟨rfl, rfl, by omega⟩ ?_
          refine asg rfl ?_
          refine ⟨by kernel_rfl, ?_⟩
          refine nx (sl 0 rfl (sl 2 rfl (sl 4 rfl (sl 5 rfl (sl 6 rfl (sl 7 rfl (sl 8 rfl (sl 10 rfl (sl 11 rfl (sl 16 rfl (sl 17 rfl sn))))))))))) (el 10 rfl (el 111 rfl (el 9 rfl (el 113 rfl (el 512 rfl (el 922 rfl en)))))) ?_
          refine tri_seq ?_
          refine tri_reg mixed hcx ?_ _ _
          refine fa rfl fD 0 ?_
          refine ld rfl rfl tyZs rfl ?_
          refine mv rfl ?_
          refine ad (((q + 1 : Nat) : Int)) rfl rfl rfl (by omega) ?_
          refine ixo rfl rfl rfl slZs ⟨rfl, by omega⟩ ?_
          refine lo _ rfl rfl tyZ ⟨rfl, rfl, by omega⟩ ?_
          refine ld rfl rfl tyZ rfl ?_
          refine ca rfl (h := zi_Mul (by omega) (by omega)) (hn := ?_)
          refine mv rfl ?_
          refine mv rfl ?_
          refine ixo rfl rfl rfl slZs ⟨rfl, by omega⟩ ?_
          refine lo _ rfl rfl tyZ ⟨rfl, rfl, by omega⟩ ?_
          refine mv rfl ?_
          refine mv rfl ?_
          refine ix rfl rfl slZs ⟨rfl, by omega⟩ ?_
          refine lf rfl tyZ ?_
          refine ca rfl (h := zi_Mul (by omega) (by omega)) (hn := ?_)
          refine ca rfl (h := zi_Sub (by omega) (by omega)) (hn := ?_)
          refine st rfl rfl rfl tyZ rfl ?_
          refine ⟨by kernel_rfl, ?_⟩
          refine nx (sl 0 rfl (sl 2 rfl (sl 4 rfl (sl 5 rfl (sl 6 rfl (sl 7 rfl (sl 8 rfl (sl 10 rfl (sl 16 rfl (sl 17 rfl sn)))))))))) (el 10 rfl (el 111 rfl (el 9 rfl (el 113 rfl (el 512 rfl (el 922 rfl en)))))) ?_
          refine tri_reg mixed hcx ?_ _ _
          refine ld rfl rfl tyZ rfl ?_
          refine fa rfl fD 0 ?_
          refine ld rfl rfl tyZs rfl ?_
          refine mv rfl ?_
          refine ixo rfl rfl rfl slZs ⟨rfl, by omega⟩ ?_
          refine lo _ rfl rfl tyZ ⟨rfl, rfl, by omega⟩ ?_
          refine ca rfl (h := zi_Floor (by assumption) (by omega) (by omega)) (hn := ?_)
          refine mv rfl ?_
          refine ex rfl rfl ?_
          refine ex rfl rfl ?_
          refine ex rfl rfl ?_
          refine st rfl rfl rfl tyZ rfl ?_
          refine ⟨by kernel_rfl, ?_⟩
          refine pn_blk ?_
          refine nx (sl 0 rfl (sl 2 rfl (sl 4 rfl (sl 5 rfl (sl 6 rfl (sl 7 rfl (sl 8 rfl (sl 10 rfl (sl 16 rfl (sl 17 rfl sn)))))))))) (el 10 rfl (el 111 rfl (el 9 rfl (el 113 rfl (el 512 rfl (el 922 rfl en)))))) ?_
          refine tri_reg mixed hcx ?_ _ _
          refine mv rfl ?_
          refine ad (((q + 1 : Nat) : Int)) rfl rfl rfl (by omega) ?_
          refine asg rfl ?_
          refine ⟨by kernel_rfl, ?_⟩
          exact pn_back (q + 1) (by first | omega | (dsimp only; omega)) (by omega) (sl 0 rfl (sl 2 rfl (sl 4 rfl (sl 5 rfl (sl 6 rfl (sl 7 rfl (sl 8 rfl (sl 10 rfl (sl 16 rfl (sl 17 rfl sn)))))))))) (el 10 rfl (el 111 rfl (el 9 rfl (el 113 rfl (el 512 rfl (ew 922 rfl (box_pack1 (z_to (by show _ = stepU D (pickL L (rowU b D L i j) i j) (rowU b D L i j) q (redU D (pickL L (rowU b D L i j) i j) (rowU b D L i j) (dotU (b.getD i []) (b.getD j []) (b.getD i []).length) q); unfold stepU; rw [show pickL L (rowU b D L i j) i j = L.getD j [] from if_pos (show j < i by omega)]; rfl) (Nat.le_trans (red_bd (k := q + 1) hB hR (by omega) hzS (by omega)) (Nat.le_trans (bd_mono (by omega)) hK1)))) en))))))
        · refine tri_skip ?_
          refine nx (sl 0 rfl (sl 2 rfl (sl 4 rfl (sl 5 rfl (sl 6 rfl (sl 7 rfl (sl 8 rfl (sl 10 rfl (sl 11 rfl (sl 16 rfl (sl 17 rfl sn))))))))))) (el 10 rfl (el 111 rfl (el 9 rfl (el 113 rfl (el 512 rfl (el 922 rfl en)))))) ?_
          refine tri_seq ?_
          refine tri_reg mixed hcx ?_ _ _
          refine fa rfl fD 0 ?_
          refine ld rfl rfl tyZs rfl ?_
          refine mv rfl ?_
          refine ad (((q + 1 : Nat) : Int)) rfl rfl rfl (by omega) ?_
          refine ixo rfl rfl rfl slZs ⟨rfl, by omega⟩ ?_
          refine lo _ rfl rfl tyZ ⟨rfl, rfl, by omega⟩ ?_
          refine ld rfl rfl tyZ rfl ?_
          refine ca rfl (h := zi_Mul (by omega) (by omega)) (hn := ?_)
          refine mv rfl ?_
          refine mv rfl ?_
          refine ixo rfl rfl rfl slZs ⟨rfl, by omega⟩ ?_
          refine lo _ rfl rfl tyZ ⟨rfl, rfl, by omega⟩ ?_
          refine mv rfl ?_
          refine mv rfl ?_
          refine ixo rfl rfl rfl slZs ⟨rfl, by omega⟩ ?_
          refine lo _ rfl rfl tyZ ⟨rfl, rfl, by omega⟩ ?_
          refine ca rfl (h := zi_Mul (by omega) (by omega)) (hn := ?_)
          refine ca rfl (h := zi_Sub (by omega) (by omega)) (hn := ?_)
          refine st rfl rfl rfl tyZ rfl ?_
          refine ⟨by kernel_rfl, ?_⟩
          refine nx (sl 0 rfl (sl 2 rfl (sl 4 rfl (sl 5 rfl (sl 6 rfl (sl 7 rfl (sl 8 rfl (sl 10 rfl (sl 16 rfl (sl 17 rfl sn)))))))))) (el 10 rfl (el 111 rfl (el 9 rfl (el 113 rfl (el 512 rfl (el 922 rfl en)))))) ?_
          refine tri_reg mixed hcx ?_ _ _
          refine ld rfl rfl tyZ rfl ?_
          refine fa rfl fD 0 ?_
          refine ld rfl rfl tyZs rfl ?_
          refine mv rfl ?_
          refine ixo rfl rfl rfl slZs ⟨rfl, by omega⟩ ?_
          refine lo _ rfl rfl tyZ ⟨rfl, rfl, by omega⟩ ?_
          refine ca rfl (h := zi_Floor (by assumption) (by omega) (by omega)) (hn := ?_)
          refine mv rfl ?_
          refine ex rfl rfl ?_
          refine ex rfl rfl ?_
          refine ex rfl rfl ?_
          refine st rfl rfl rfl tyZ rfl ?_
          refine ⟨by kernel_rfl, ?_⟩
          refine pn_blk ?_
          refine nx (sl 0 rfl (sl 2 rfl (sl 4 rfl (sl 5 rfl (sl 6 rfl (sl 7 rfl (sl 8 rfl (sl 10 rfl (sl 16 rfl (sl 17 rfl sn)))))))))) (el 10 rfl (el 111 rfl (el 9 rfl (el 113 rfl (el 512 rfl (el 922 rfl en)))))) ?_
          refine tri_reg mixed hcx ?_ _ _
          refine mv rfl ?_
          refine ad (((q + 1 : Nat) : Int)) rfl rfl rfl (by omega) ?_
          refine asg rfl ?_
          refine ⟨by kernel_rfl, ?_⟩
          exact pn_back (q + 1) (by first | omega | (dsimp only; omega)) (by omega) (sl 0 rfl (sl 2 rfl (sl 4 rfl (sl 5 rfl (sl 6 rfl (sl 7 rfl (sl 8 rfl (sl 10 rfl (sl 16 rfl (sl 17 rfl sn)))))))))) (el 10 rfl (el 111 rfl (el 9 rfl (el 113 rfl (el 512 rfl (ew 922 rfl (box_pack1 (z_to (by show _ = stepU D (pickL L (rowU b D L i j) i j) (rowU b D L i j) q (redU D (pickL L (rowU b D L i j) i j) (rowU b D L i j) (dotU (b.getD i []) (b.getD j []) (b.getD i []).length) q); unfold stepU; rw [show pickL L (rowU b D L i j) i j = (rowU b D L i j) from if_neg (show ¬ j < i by omega)]; rfl) (Nat.le_trans (red_bd (k := q + 1) hB hR (by omega) hzS (by omega)) (Nat.le_trans (bd_mono (by omega)) hK1)))) en))))))
      · refine tri_exit ?_
        repeat (first | refine pn_then ?_ | refine pn_oth (by decide) ?_)
        refine pn_ex ?_
        have hqj : q = j := by omega
        refine nx (sl 0 rfl (sl 2 rfl (sl 4 rfl (sl 5 rfl (sl 6 rfl (sl 7 rfl (sl 8 rfl (sl 16 rfl (sl 17 rfl sn))))))))) (el 10 rfl (el 111 rfl (el 9 rfl (el 113 rfl (el 512 rfl (el 922 rfl en)))))) ?_
        refine tri_reg mixed hcx ?_ _ _
        refine mv rfl ?_
        refine ld rfl rfl tyZ rfl ?_
        refine bs (c := cZ K) (xs := [redU D (pickL L (rowU b D L i j) i j) (rowU b D L i j) (dotU (b.getD i []) (b.getD j []) (b.getD i []).length) j]) slZs rfl ⟨.of (by rw [hqj]; rfl), trivial⟩ ?_
        refine ap 1813 rfl rfl rfl slZs (by simp only [List.length_cons, List.length_nil]; omega) (by decide) ?_
        refine asg rfl ?_
        refine ⟨by kernel_rfl, ?_⟩
        refine pn_blk ?_
        refine nx (sl 0 rfl (sl 2 rfl (sl 4 rfl (sl 5 rfl (sl 6 rfl (sl 7 rfl (sl 16 rfl (sl 17 rfl sn)))))))) (el 10 rfl (el 111 rfl (el 9 rfl (el 113 rfl (el 922 rfl (el 1813 rfl en)))))) ?_
        refine tri_reg mixed hcx ?_ _ _
        refine mv rfl ?_
        refine ad (((j + 1 : Nat) : Int)) rfl rfl rfl (by omega) ?_
        refine asg rfl ?_
        refine ⟨by kernel_rfl, ?_⟩
        refine pn_sub (sl 0 rfl (sl 2 rfl (sl 4 rfl (sl 5 rfl (sl 6 rfl (sl 7 rfl (sl 16 rfl (sl 17 rfl sn)))))))) (el 10 rfl (el 111 rfl (el 9 rfl (el 113 rfl (el 922 rfl (el 1813 rfl en)))))) ?_
        refine pn_ren 6 512 1813 rfl rfl (by rw [hcx]; kernel_rfl) ?_
        exact pn_back (j + 1) (by first | omega | (dsimp only; omega)) ⟨by omega, hR.snoc (red_bd hB hR (by omega) hzS (Nat.le_refl _))⟩ (sl 0 rfl (sl 2 rfl (sl 4 rfl (sl 5 rfl (sl 6 rfl (sl 7 rfl (sl 16 rfl (sl 17 rfl sn)))))))) (el 10 rfl (el 111 rfl (el 9 rfl (el 113 rfl (el 512 rfl en)))))
    · refine tri_exit ?_
      repeat (first | refine pn_then ?_ | refine pn_oth (by decide) ?_)
      refine pn_ex ?_
      have hji : j = i + 1 := by omega
      subst hji
      have hRl := hR.len
      refine nx (sl 0 rfl (sl 2 rfl (sl 4 rfl (sl 5 rfl (sl 6 rfl (sl 16 rfl (sl 17 rfl sn))))))) (el 10 rfl (el 111 rfl (el 9 rfl (el 113 rfl (el 512 rfl en))))) ?_
      refine tri_seq ?_
      refine tri_seq ?_
      rcases Int.lt_or_le 0 ((rowU b D L i (i + 1)).getD i 0) with hpos | hpos
      · have hsp : sg ((rowU b D L i (i + 1)).getD i (cZ K).dflt) = 1 := sg_pos hpos
        have hnx : bld b (i + 1) = some (D ++ [(rowU b D L i (i + 1)).getD i 0], L ++ [(rowU b D L i (i + 1)).take i]) := by show (match bld b i with | none => none | some (D, L) => if (rowU b D L i (i + 1)).getD i 0 ≤ 0 then none else some (D ++ [(rowU b D L i (i + 1)).getD i 0], L ++ [(rowU b D L i (i + 1)).take i])) = _; rw [hb]; simp only; rw [if_neg (Int.not_le.2 hpos)]
        refine tri_reg mixed hcx ?_ _ _
        refine mv rfl ?_
        refine mv rfl ?_
        refine ixo rfl rfl rfl slZs ⟨rfl, by omega⟩ ?_
        refine lo _ rfl rfl tyZ ⟨rfl, rfl, by omega⟩ ?_
        refine ca rfl (h := zi_Sign (by omega)) (hn := ?_)
        refine cle rfl rfl (decide_eq_false (by omega)) ?_
        refine ⟨by kernel_rfl, ?_⟩
        refine nx (sl 0 rfl (sl 2 rfl (sl 4 rfl (sl 5 rfl (sl 6 rfl (sl 16 rfl (sl 17 rfl (sl 92 rfl sn)))))))) (el 10 rfl (el 111 rfl (el 9 rfl (el 113 rfl (el 512 rfl en))))) ?_
        refine tri_false rfl rfl ?_
        refine tri_skip ?_
        refine nx (sl 0 rfl (sl 2 rfl (sl 4 rfl (sl 5 rfl (sl 6 rfl (sl 16 rfl (sl 17 rfl sn))))))) (el 10 rfl (el 111 rfl (el 9 rfl (el 113 rfl (el 512 rfl en))))) ?_
        refine tri_seq ?_
        refine tri_fz 512 rfl ?_
        refine tri_rd 6 512 rfl rfl ?_
        refine tri_reg mixed hcx ?_ _ _
        refine fa rfl fD 0 ?_
        refine ld rfl rfl tyZs rfl ?_
        refine mv rfl ?_
        refine mv rfl ?_
        refine ix rfl rfl slZs ⟨rfl, by omega⟩ ?_
        refine lf rfl tyZ ?_
        refine bs (c := cZ K) (xs := [(rowU b D L i (i + 1)).getD i 0]) slZs rfl ⟨.refl _, trivial⟩ ?_
        refine ap 2117 rfl rfl rfl slZs (by simp only [List.length_cons, List.length_nil]; omega) (by decide) ?_
        refine fa rfl fD 0 ?_
        refine st rfl rfl rfl tyZs rfl ?_
        refine ⟨by kernel_rfl, ?_⟩
        refine nx (sl 0 rfl (sl 2 rfl (sl 4 rfl (sl 5 rfl (sl 6 rfl (sl 16 rfl (sl 17 rfl sn))))))) (el 10 rfl (el 9 rfl (el 113 rfl (el 2117 rfl en)))) ?_
        refine tri_reg mixed hcx ?_ _ _
        refine fa rfl fL 1 ?_
        refine ld rfl rfl tyZss rfl ?_
        refine mv rfl ?_
        refine mv rfl ?_
        refine mv rfl ?_
        refine sh3 rfl slZs rfl rfl ⟨rfl, rfl, by omega⟩ ?_
        refine bs (c := cL (cZ K)) (xs := [(rowU b D L i (i + 1)).take i]) slZss rfl ⟨.refl _, trivial⟩ ?_
        refine ap 2217 rfl rfl rfl slZss (by simp only [List.length_cons, List.length_nil]; omega) (by decide) ?_
        refine fa rfl fL 1 ?_
        refine st rfl rfl rfl tyZss rfl ?_
        refine ⟨by kernel_rfl, ?_⟩
        refine pn_blk ?_
        refine nx (sl 0 rfl (sl 2 rfl (sl 4 rfl (sl 16 rfl (sl 17 rfl sn))))) (el 10 rfl (el 113 rfl (el 2117 rfl (el 2217 rfl en)))) ?_
        refine tri_reg mixed hcx ?_ _ _
        refine ad _ rfl rfl rfl ⟨rfl, by omega, by omega⟩ ?_
        refine mv rfl ?_
        refine ⟨by kernel_rfl, ?_⟩
        refine pn_sub (sl 0 rfl (sl 2 rfl (sl 4 rfl (sl 16 rfl (sl 17 rfl sn))))) (el 10 rfl (el 113 rfl (el 2117 rfl (el 2217 rfl en)))) ?_
        refine pn_renb (bl := [T.o 2117, T.o 2217]) (bl' := [T.o 111, T.o 2217]) 113 111 2117 rfl rfl ⟨.inr ⟨rfl, rfl⟩, .inl ⟨rfl, by show 111 ∉ [2217]; decide⟩, trivial⟩ (by rw [hcx]; kernel_rfl) rfl ?_
        refine pn_renb (bl := [T.o 111, T.o 2217]) (bl' := [T.o 111, T.o 9]) 113 9 2217 rfl rfl ⟨.inl ⟨rfl, by show 9 ∉ [111]; decide⟩, .inr ⟨rfl, rfl⟩, trivial⟩ (by rw [hcx]; kernel_rfl) rfl ?_
        exact pn_back (i + 1, D ++ [(rowU b D L i (i + 1)).getD i 0], L ++ [(rowU b D L i (i + 1)).take i]) (by dsimp only; omega) ⟨by omega, hnx, hB.step hR hpos⟩ (sl 0 rfl (sl 2 rfl (sl 4 rfl (sl 16 rfl (sl 17 rfl sn))))) (el 10 rfl (el 111 rfl (el 9 rfl (el 113 rfl en))))
      · have hsp : sg ((rowU b D L i (i + 1)).getD i (cZ K).dflt) ≤ 0 := sg_le.2 hpos
        refine tri_reg mixed hcx ?_ _ _
        refine mv rfl ?_
        refine mv rfl ?_
        refine ixo rfl rfl rfl slZs ⟨rfl, by omega⟩ ?_
        refine lo _ rfl rfl tyZ ⟨rfl, rfl, by omega⟩ ?_
        refine ca rfl (h := zi_Sign (by omega)) (hn := ?_)
        refine cle rfl rfl (decide_eq_true (by omega)) ?_
        refine ⟨by kernel_rfl, ?_⟩
        refine nx (sl 0 rfl (sl 2 rfl (sl 4 rfl (sl 5 rfl (sl 6 rfl (sl 16 rfl (sl 17 rfl (sl 92 rfl sn)))))))) (el 10 rfl (el 111 rfl (el 9 rfl (el 113 rfl (el 512 rfl en))))) ?_
        refine tri_true rfl rfl ?_
        refine tri_seq ?_
        refine tri_reg mixed hcx ?_ _ _
        refine bu stG rfl ?_
        refine st rfl rfl rfl tyG rfl ?_
        refine asg rfl ?_
        refine ⟨by kernel_rfl, ?_⟩
        refine nx (sl 2 rfl (sl 3 rfl sn)) (el 10 rfl (el 111 rfl (el 9 rfl (el 113 rfl (el 512 rfl en))))) ?_
        refine tri_ret ?_
        repeat (first | refine pn_thenr ?_ | refine pn_blkr ?_)
        exact ret2 hcx rfl (rv_cell (c' := cx) (n := 0) rfl rfl tyG rfl) (rv_tmp rfl) (.refl _) en
  · refine tri_exit ?_
    repeat (first | refine pn_then ?_ | refine pn_oth (by decide) ?_)
    refine pn_ex ?_
    have hin : i = b.length := by omega
    rw [hin, h] at hb; cases hb

theorem g_of_err_t {b : List (List Int)} {k : Nat} {r : Int} (hk : k ≤ 1048576) (hrr : ∀ i, i < b.length → (b.getD i []).length ≤ 1048576) (hbl : b.length ≤ 1048576) (hR : ShR b true r) (hr : r ≠ 0) : Fn Tryz.prog 25 [T.l (cL (cZi k)) b, T.c (.bool true)] [] [] [] (T.tup [T.st [T.c (.slice none 0 0), T.c (.slice none 0 0)], T.c (.int .i64 r)]) := by
  refine fn_of Tryz.func25 rfl (by show 2 ≤ 25; decide) fun cx hcx => ?_
  refine tri_sub (sl 0 rfl (sl 1 rfl sn)) en ?_
  refine tri_seq ?_
  refine tri_reg mixed hcx ?_ _ _
  refine nw 10 zeG ?_
  refine asg rfl ?_
  refine ⟨by kernel_rfl, ?_⟩
  refine nx (sl 0 rfl (sl 1 rfl (sl 4 rfl sn))) (el 10 rfl en) ?_
  refine tri_seq ?_
  refine tri_seq ?_
  refine tri_reg mixed hcx ?_ _ _
  refine mv rfl ?_
  refine mv rfl ?_
  refine ca rfl (h := g_shaped_t hk hbl hrr hR) (hn := ?_)
  refine asg rfl ?_
  refine ⟨by kernel_rfl, ?_⟩
  refine nx (sl 0 rfl (sl 4 rfl (sl 6 rfl sn))) (el 10 rfl en) ?_
  refine tri_seq ?_
  refine tri_reg mixed hcx ?_ _ _
  refine mv rfl ?_
  refine cne rfl rfl (decide_eq_true hr) ?_
  refine ⟨by kernel_rfl, ?_⟩
  refine nx (sl 0 rfl (sl 4 rfl (sl 6 rfl (sl 13 rfl sn)))) (el 10 rfl en) ?_
  refine tri_true rfl rfl ?_
  refine tri_seq ?_
  refine tri_reg mixed hcx ?_ _ _
  refine bu stG rfl ?_
  refine mv rfl ?_
  refine st rfl rfl rfl tyG rfl ?_
  refine asg rfl ?_
  refine ⟨by kernel_rfl, ?_⟩
  refine nx (sl 4 rfl (sl 5 rfl sn)) (el 10 rfl en) ?_
  refine tri_ret ?_
  repeat (first | refine pn_thenr ?_ | refine pn_blkr ?_)
  exact ret2 hcx rfl (rv_cell (c' := cx) (n := 0) rfl rfl tyG rfl) (rv_tmp rfl) (.refl _) en

theorem g_of_no_t {b : List (List Int)} {k m S K : Nat} (h0 : 0 < b.length) (hb : b.length ≤ 12) (hm : ∀ i, i < b.length → (b.getD i []).length = m) (hk : k ≤ 1048576) (hm12 : m ≤ 12) (hR : ShR b true 0) (h : bld b b.length = none) (hS : ∀ i j, i < b.length → j ≤ i → zl (dotU (b.getD i []) (b.getD j []) (b.getD i []).length) ≤ S) (hK1 : bd S 12 ≤ K) (hK2 : K ≤ 137438953472) (hK3 : 2 ≤ K) : Fn Tryz.prog 25 [T.l (cL (cZi k)) b, T.c (.bool true)] [] [] [] (T.tup [T.st [T.c (.slice none 0 0), T.c (.slice none 0 0)], T.c (.int .i64 50)]) := by
  refine fn_of Tryz.func25 rfl (by show 2 ≤ 25; decide) fun cx hcx => ?_
  refine tri_sub (sl 0 rfl (sl 1 rfl sn)) en ?_
  have hrr : ∀ i, i < b.length → (b.getD i []).length ≤ 1048576 := fun i hi => by rw [hm i hi]; omega
  refine tri_seq ?_
  refine tri_reg mixed hcx ?_ _ _
  refine nw 10 zeG ?_
  refine asg rfl ?_
  refine ⟨by kernel_rfl, ?_⟩
  refine nx (sl 0 rfl (sl 1 rfl (sl 4 rfl sn))) (el 10 rfl en) ?_
  refine tri_seq ?_
  refine tri_seq ?_
  refine tri_reg mixed hcx ?_ _ _
  refine mv rfl ?_
  refine mv rfl ?_
  refine ca rfl (h := g_shaped_t hk (by omega) hrr hR) (hn := ?_)
  refine asg rfl ?_
  refine ⟨by kernel_rfl, ?_⟩
  refine nx (sl 0 rfl (sl 4 rfl (sl 6 rfl sn))) (el 10 rfl en) ?_
  refine tri_seq ?_
  refine tri_reg mixed hcx ?_ _ _
  refine mv rfl ?_
  refine cne rfl rfl (decide_eq_false (by omega)) ?_
  refine ⟨by kernel_rfl, ?_⟩
  refine nx (sl 0 rfl (sl 4 rfl (sl 6 rfl (sl 13 rfl sn)))) (el 10 rfl en) ?_
  refine tri_false rfl rfl ?_
  refine tri_skip ?_
  refine nx (sl 0 rfl (sl 4 rfl sn)) (el 10 rfl en) ?_
  refine tri_seq ?_
  refine tri_reg mixed hcx ?_ _ _
  refine mv rfl ?_
  refine ca rfl (h := g_built_no h hb hm (by omega) hk hS hK1 hK2 hK3) (hn := ?_)
  refine mv rfl ?_
  refine ex rfl rfl ?_
  refine ex rfl rfl ?_
  refine nw 415 zeG ?_
  refine st rfl rfl rfl tyG rfl ?_
  refine asg rfl ?_
  refine ⟨by kernel_rfl, ?_⟩
  refine nx (sl 4 rfl (sl 7 rfl (sl 8 rfl sn))) (el 10 rfl (el 415 rfl en)) ?_
  refine tri_seq ?_
  refine tri_seq ?_
  refine tri_reg mixed hcx ?_ _ _
  refine mv rfl ?_
  refine nt rfl _ rfl ?_
  refine ⟨by kernel_rfl, ?_⟩
  refine nx (sl 4 rfl (sl 7 rfl (sl 22 rfl sn))) (el 10 rfl (el 415 rfl en)) ?_
  refine tri_true rfl rfl ?_
  refine tri_seq ?_
  refine tri_reg mixed hcx ?_ _ _
  refine bu stG rfl ?_
  refine st rfl rfl rfl tyG rfl ?_
  refine asg rfl ?_
  refine ⟨by kernel_rfl, ?_⟩
  refine nx (sl 4 rfl (sl 5 rfl sn)) (el 10 rfl (el 415 rfl en)) ?_
  refine tri_ret ?_
  repeat (first | refine pn_thenr ?_ | refine pn_blkr ?_)
  exact ret2 hcx rfl (rv_cell (c' := cx) (n := 0) rfl rfl tyG rfl) (rv_tmp rfl) (.refl _) en

theorem g_of_ok_t {b : List (List Int)} {D0 : List Int} {L0 : List (List Int)} {k m S K : Nat} (h0 : 0 < b.length) (hb : b.length ≤ 12) (hm : ∀ i, i < b.length → (b.getD i []).length = m) (hk : k ≤ 1048576) (hm12 : m ≤ 12) (hR : ShR b true 0) (h : bld b b.length = some (D0, L0)) (hS : ∀ i j, i < b.length → j ≤ i → zl (dotU (b.getD i []) (b.getD j []) (b.getD i []).length) ≤ S) (hK1 : bd S 12 ≤ K) (hK2 : K ≤ 137438953472) (hK3 : 2 ≤ K) : Fn Tryz.prog 25 [T.l (cL (cZi k)) b, T.c (.bool true)] [] [] [] (T.tup [T.st [T.l (cZ K) D0, T.l (cL (cZ K)) L0], T.c (.int .i64 0)]) := by
  refine fn_of Tryz.func25 rfl (by show 2 ≤ 25; decide) fun cx hcx => ?_
  refine tri_sub (sl 0 rfl (sl 1 rfl sn)) en ?_
  have hrr : ∀ i, i < b.length → (b.getD i []).length ≤ 1048576 := fun i hi => by rw [hm i hi]; omega
  refine tri_seq ?_
  refine tri_reg mixed hcx ?_ _ _
  refine nw 10 zeG ?_
  refine asg rfl ?_
  refine ⟨by kernel_rfl, ?_⟩
  refine nx (sl 0 rfl (sl 1 rfl (sl 4 rfl sn))) (el 10 rfl en) ?_
  refine tri_seq ?_
  refine tri_seq ?_
  refine tri_reg mixed hcx ?_ _ _
  refine mv rfl ?_
  refine mv rfl ?_
  refine ca rfl (h := g_shaped_t hk (by omega) hrr hR) (hn := ?_)
  refine asg rfl ?_
  refine ⟨by kernel_rfl, ?_⟩
  refine nx (sl 0 rfl (sl 4 rfl (sl 6 rfl sn))) (el 10 rfl en) ?_
  refine tri_seq ?_
  refine tri_reg mixed hcx ?_ _ _
  refine mv rfl ?_
  refine cne rfl rfl (decide_eq_false (by omega)) ?_
  refine ⟨by kernel_rfl, ?_⟩
  refine nx (sl 0 rfl (sl 4 rfl (sl 6 rfl (sl 13 rfl sn)))) (el 10 rfl en) ?_
  refine tri_false rfl rfl ?_
  refine tri_skip ?_
  refine nx (sl 0 rfl (sl 4 rfl sn)) (el 10 rfl en) ?_
  refine tri_seq ?_
  refine tri_reg mixed hcx ?_ _ _
  refine mv rfl ?_
  refine ca rfl (h := g_built h hb hm (by omega) hk hS hK1 hK2 hK3) (hn := ?_)
  refine mv rfl ?_
  refine ex rfl rfl ?_
  refine ex rfl rfl ?_
  refine nw 415 zeG ?_
  refine st rfl rfl rfl tyG rfl ?_
  refine asg rfl ?_
  refine ⟨by kernel_rfl, ?_⟩
  refine nx (sl 4 rfl (sl 7 rfl (sl 8 rfl sn))) (el 10 rfl (el 415 rfl en)) ?_
  refine tri_seq ?_
  refine tri_seq ?_
  refine tri_reg mixed hcx ?_ _ _
  refine mv rfl ?_
  refine nt rfl _ rfl ?_
  refine ⟨by kernel_rfl, ?_⟩
  refine nx (sl 4 rfl (sl 7 rfl (sl 22 rfl sn))) (el 10 rfl (el 415 rfl en)) ?_
  refine tri_false rfl rfl ?_
  refine tri_skip ?_
  refine nx (sl 4 rfl (sl 7 rfl sn)) (el 10 rfl (el 415 rfl en)) ?_
  refine tri_seq ?_
  refine tri_reg mixed hcx ?_ _ _
  refine ld rfl rfl tyG rfl ?_
  refine st rfl rfl rfl tyG rfl ?_
  refine asg rfl ?_
  refine ⟨by kernel_rfl, ?_⟩
  refine nx (sl 4 rfl (sl 5 rfl sn)) (el 10 rfl (el 415 rfl en)) ?_
  refine tri_ret ?_
  repeat (first | refine pn_thenr ?_ | refine pn_blkr ?_)
  exact ret2 hcx rfl (rv_cell (c' := cx) (n := 0) rfl rfl tyG rfl) (rv_tmp rfl) (.refl _) en

theorem g_of_ok_f {b : List (List Int)} {D0 : List Int} {L0 : List (List Int)} {k m S K : Nat} (h0 : 0 < b.length) (hb : b.length ≤ 12) (hm : ∀ i, i < b.length → (b.getD i []).length = m) (hk : k ≤ 1048576) (hm12 : m ≤ 12) (hR : ShR b false 0) (h : bld b b.length = some (D0, L0)) (hS : ∀ i j, i < b.length → j ≤ i → zl (dotU (b.getD i []) (b.getD j []) (b.getD i []).length) ≤ S) (hK1 : bd S 12 ≤ K) (hK2 : K ≤ 137438953472) (hK3 : 2 ≤ K) : Fn Tryz.prog 25 [T.l (cL (cZi k)) b, T.c (.bool false)] [] [] [] (T.tup [T.st [T.l (cZ K) D0, T.l (cL (cZ K)) L0], T.c (.int .i64 0)]) := by
  refine fn_of Tryz.func25 rfl (by show 2 ≤ 25; decide) fun cx hcx => ?_
  refine tri_sub (sl 0 rfl (sl 1 rfl sn)) en ?_
  have hrr : ∀ i, i < b.length → (b.getD i []).length ≤ 1048576 := fun i hi => by rw [hm i hi]; omega
  refine tri_seq ?_
  refine tri_reg mixed hcx ?_ _ _
  refine nw 10 zeG ?_
  refine asg rfl ?_
  refine ⟨by kernel_rfl, ?_⟩
  refine nx (sl 0 rfl (sl 1 rfl (sl 4 rfl sn))) (el 10 rfl en) ?_
  refine tri_seq ?_
  refine tri_seq ?_
  refine tri_reg mixed hcx ?_ _ _
  refine mv rfl ?_
  refine mv rfl ?_
  refine ca rfl (h := g_shaped_f hk (by omega) hrr hR) (hn := ?_)
  refine asg rfl ?_
  refine ⟨by kernel_rfl, ?_⟩
  refine nx (sl 0 rfl (sl 4 rfl (sl 6 rfl sn))) (el 10 rfl en) ?_
  refine tri_seq ?_
  refine tri_reg mixed hcx ?_ _ _
  refine mv rfl ?_
  refine cne rfl rfl (decide_eq_false (by omega)) ?_
  refine ⟨by kernel_rfl, ?_⟩
  refine nx (sl 0 rfl (sl 4 rfl (sl 6 rfl (sl 13 rfl sn)))) (el 10 rfl en) ?_
  refine tri_false rfl rfl ?_
  refine tri_skip ?_
  refine nx (sl 0 rfl (sl 4 rfl sn)) (el 10 rfl en) ?_
  refine tri_seq ?_
  refine tri_reg mixed hcx ?_ _ _
  refine mv rfl ?_
  refine ca rfl (h := g_built h hb hm (by omega) hk hS hK1 hK2 hK3) (hn := ?_)
  refine mv rfl ?_
  refine ex rfl rfl ?_
  refine ex rfl rfl ?_
  refine nw 415 zeG ?_
  refine st rfl rfl rfl tyG rfl ?_
  refine asg rfl ?_
  refine ⟨by kernel_rfl, ?_⟩
  refine nx (sl 4 rfl (sl 7 rfl (sl 8 rfl sn))) (el 10 rfl (el 415 rfl en)) ?_
  refine tri_seq ?_
  refine tri_seq ?_
  refine tri_reg mixed hcx ?_ _ _
  refine mv rfl ?_
  refine nt rfl _ rfl ?_
  refine ⟨by kernel_rfl, ?_⟩
  refine nx (sl 4 rfl (sl 7 rfl (sl 22 rfl sn))) (el 10 rfl (el 415 rfl en)) ?_
  refine tri_false rfl rfl ?_
  refine tri_skip ?_
  refine nx (sl 4 rfl (sl 7 rfl sn)) (el 10 rfl (el 415 rfl en)) ?_
  refine tri_seq ?_
  refine tri_reg mixed hcx ?_ _ _
  refine ld rfl rfl tyG rfl ?_
  refine st rfl rfl rfl tyG rfl ?_
  refine asg rfl ?_
  refine ⟨by kernel_rfl, ?_⟩
  refine nx (sl 4 rfl (sl 5 rfl sn)) (el 10 rfl (el 415 rfl en)) ?_
  refine tri_ret ?_
  repeat (first | refine pn_thenr ?_ | refine pn_blkr ?_)
  exact ret2 hcx rfl (rv_cell (c' := cx) (n := 0) rfl rfl tyG rfl) (rv_tmp rfl) (.refl _) en
end Go.Proofs.YtmfgnbchehnpjaaGreat.V
/- The document: rows made orthogonal. -/
set_option linter.unusedVariables false
set_option linter.unusedSimpArgs false
set_option maxRecDepth 100000
namespace Go.Proofs.YtmfgnbchehnpjaaGreat.V
open Go.RowKit Mt Nml
theorem tyR : Ty Tryz.prog 44 true 2 := ⟨by kernel_rfl, by kernel_rfl⟩
theorem tyQss : Ty Tryz.prog 42 false 1 := ⟨by kernel_rfl, by kernel_rfl⟩
theorem fMu : FieldT Tryz.prog 44 0 0 false 1 := FieldT.mk' tyQss
theorem fStar : FieldT Tryz.prog 44 1 1 false 1 := FieldT.mk' tyQs
theorem slQss : SlT Tryz.prog 42 23 1 24 := SlT.mk (.slice none 0 0)
theorem stR : StructT Tryz.prog 44 [T.c (.slice none 0 0), T.c (.slice none 0 0)] [(0, 1), (1, 1)] := StructT.mk' (zs := [.slice none 0 0, .slice none 0 0])
theorem zeR : Zero Tryz.prog 44 [T.c (.slice none 0 0), T.c (.slice none 0 0)] := zero_of (zs := [.slice none 0 0, .slice none 0 0]) (z := .agg #[.slice none 0 0, .slice none 0 0]) (by kernel_rfl)
theorem q_nd (q : Rat) : ((q.num : Int) : Rat) / (((q.den : Int)) : Rat) = q := by rw [← Rat.divInt_eq_div, Rat.num_divInt_den]
theorem rat_divs {q r : Rat} (hr : r ≠ 0) : ((q.num * (r.den : Int) : Int) : Rat) / (((q.den : Int) * r.num : Int) : Rat) = q / r := by
  have h1 : (((q.den : Int)) : Rat) ≠ 0 := rat_ne (den_ne q)
  have h2 : (((r.den : Int)) : Rat) ≠ 0 := rat_ne (den_ne r)
  have h3 : ((r.num : Int) : Rat) ≠ 0 := rat_ne (fun e => hr (Rat.num_eq_zero.1 e))
  conv => rhs; rw [← q_nd q, ← q_nd r]
  rw [Rat.intCast_mul, Rat.intCast_mul]
  generalize ((q.num : Int) : Rat) = a
  generalize ((r.num : Int) : Rat) = c at h3
  generalize (((q.den : Int)) : Rat) = b at h1
  generalize (((r.den : Int)) : Rat) = d at h2
  grind
theorem num_ne {r : Rat} (hr : r ≠ 0) : r.num ≠ 0 := fun e => hr (Rat.num_eq_zero.1 e)
theorem box_open {et : TypeId} {l : List T} : (Ent.box et [T.st l]).le (Ent.box et l) := fun β u w v F ⟨b, cs, h1, h2, h3, v', rest, _, ⟨cs', e1, hc⟩, e2, e3⟩ => ⟨b, cs, h1, h2, h3, by
  subst e1
  rw [e3, List.append_nil] at e2
  simp only [Value.cells] at e2
  rw [e2]; exact hc⟩
/-- The coefficients and squared lengths of rows, as fractions. -/
def mR (b : List (List Int)) (i j : Nat) : Rat := Mr (gR b) j i j / Mr (gR b) j j j
def sR (b : List (List Int)) (i : Nat) : Rat := Mr (gR b) i i i
def mL (b : List (List Int)) (i n : Nat) : List Rat := (List.range n).map (mR b i)
def ML (b : List (List Int)) (n : Nat) : List (List Rat) := (List.range n).map (fun i => mL b i i)
def SL (b : List (List Int)) (n : Nat) : List Rat := (List.range n).map (sR b)
theorem rng_at {α : Type} {f : Nat → α} {d : α} {n k : Nat} (h : k < n) : ((List.range n).map f).getD k d = f k := by
  rw [List.getD_eq_getElem?_getD, List.getElem?_map, List.getElem?_range h]; rfl
theorem mL_at {b : List (List Int)} {i n k : Nat} (h : k < n) : (mL b i n).getD k 0 = mR b i k := rng_at h
theorem ML_at {b : List (List Int)} {n j : Nat} (h : j < n) : (ML b n).getD j [] = mL b j j := rng_at h
theorem SL_at {b : List (List Int)} {n k : Nat} (h : k < n) : (SL b n).getD k 0 = sR b k := rng_at h
theorem mL_len {b : List (List Int)} {i n : Nat} : (mL b i n).length = n := by simp [mL]
theorem ML_len {b : List (List Int)} {n : Nat} : (ML b n).length = n := by simp [ML]
theorem SL_len {b : List (List Int)} {n : Nat} : (SL b n).length = n := by simp [SL]
theorem mL_succ {b : List (List Int)} {i n : Nat} : mL b i n ++ [mR b i n] = mL b i (n + 1) := by simp [mL, List.range_succ]
theorem ML_succ {b : List (List Int)} {n : Nat} : ML b n ++ [mL b n n] = ML b (n + 1) := by simp [ML, List.range_succ]
theorem SL_succ {b : List (List Int)} {n : Nat} : SL b n ++ [sR b n] = SL b (n + 1) := by simp [SL, List.range_succ]
theorem mr_step (b : List (List Int)) {i j k : Nat} (h : sR b k ≠ 0) : Mr (gR b) k i j - mR b j k * mR b i k * sR b k = Mr (gR b) (k + 1) i j := by
  show Mr (gR b) k i j - Mr (gR b) k j k / Mr (gR b) k k k * (Mr (gR b) k i k / Mr (gR b) k k k) * Mr (gR b) k k k = Mr (gR b) k i j + -(Mr (gR b) k i k / Mr (gR b) k k k) * Mr (gR b) k k j
  rw [mr_symm (gR_symm b) k k j]
  have h' : Mr (gR b) k k k ≠ 0 := h
  generalize Mr (gR b) k k k = m at h'
  generalize Mr (gR b) k i k = x
  generalize Mr (gR b) k j k = y
  grind
theorem mr_step2 (b : List (List Int)) {i k : Nat} (h : sR b k ≠ 0) : Mr (gR b) k i i - mR b i k * mR b i k * sR b k = Mr (gR b) (k + 1) i i := mr_step b h

theorem r03_Div {q r : Rat} {k l : Nat} (hr : r ≠ 0) (hk : k ≤ 68719476736) (hl : l ≤ 68719476736) : Fn Tryz.prog 19 [T.Q q k, T.Q r l] [] [] [] (T.Q (q / r) (2 * (k + l))) := by
  refine fn_of Tryz.func19 rfl (by show 2 ≤ 16; decide) fun cx hcx => ?_
  refine tri_sub (sl 0 rfl (sl 1 rfl sn)) en ?_
  have hd1 := den_ne q; have hr1 := num_ne hr; have hdd : (q.den : Int) * r.num ≠ 0 := Int.mul_ne_zero hd1 hr1
  refine tri_seq ?_
  refine tri_reg mixed hcx ?_ _ _
  refine bxs 10 rfl ?_
  refine bxs 11 rfl ?_
  refine nw 12 zeQ ?_
  refine ⟨by kernel_rfl, ?_⟩
  refine nx (sl 2 rfl (sl 3 rfl (sl 4 rfl sn))) (el 10 rfl (el 11 rfl (el 12 rfl en))) ?_
  refine tri_seq ?_
  refine tri_reg mixed hcx ?_ _ _
  refine fa rfl fNum 0 ?_
  refine ld rfl rfl tyZ rfl ?_
  refine fa rfl fDen 2 ?_
  refine ld rfl rfl tyZ rfl ?_
  refine ca rfl (h := r02_Mul (by omega) (by omega)) (hn := ?_)
  refine fa rfl fDen 2 ?_
  refine ld rfl rfl tyZ rfl ?_
  refine fa rfl fNum 0 ?_
  refine ld rfl rfl tyZ rfl ?_
  refine ca rfl (h := r02_Mul (by omega) (by omega)) (hn := ?_)
  refine ca rfl (h := r03_Make (by first | assumption | omega) (by omega) (by omega)) (hn := ?_)
  refine st rfl rfl rfl tyQ rfl ?_
  refine ⟨by kernel_rfl, ?_⟩
  refine nx (sl 4 rfl sn) (el 10 rfl (el 11 rfl (el 12 rfl en))) ?_
  refine tri_ret ?_
  repeat (first | refine pn_thenr ?_ | refine pn_blkr ?_)
  exact ret1 hcx rfl (rv_cell (c' := cx) (n := 0) rfl rfl tyQ rfl) (q_eq (rat_divs hr) (by omega)) en

theorem r05_Dot {xs ys : List Int} {k l : Nat} (hl : xs.length = ys.length) (hn : xs.length ≤ 1048576) (hk : k ≤ 1099511627776) (hk2 : l ≤ 1099511627776) (hkl : xs.length * (k + l + 1) ≤ 1099511627776) : Fn Tryz.prog 66 [T.l (cZi k) xs, T.l (cZi l) ys] [] [] [] (T.Z (dotU xs ys xs.length) (xs.length * (k + l + 1))) := by
  refine fn_of Tryz.func66 rfl (by show 2 ≤ 31; decide) fun cx hcx => ?_
  refine tri_sub (sl 0 rfl (sl 1 rfl sn)) en ?_
  refine tri_seq ?_
  refine tri_reg mixed hcx ?_ _ _
  refine nw 10 zeZ ?_
  refine ⟨by kernel_rfl, ?_⟩
  refine nx (sl 0 rfl (sl 1 rfl (sl 4 rfl sn))) (el 10 rfl en) ?_
  refine tri_seq ?_
  refine tri_reg mixed hcx ?_ _ _
  refine nw 110 zeZ ?_
  refine ⟨by kernel_rfl, ?_⟩
  refine nx (sl 0 rfl (sl 1 rfl (sl 4 rfl (sl 5 rfl sn)))) (el 10 rfl (el 110 rfl en)) ?_
  refine tri_seq ?_
  refine tri_seq ?_
  refine tri_reg mixed hcx ?_ _ _
  refine asg rfl ?_
  refine ⟨by kernel_rfl, ?_⟩
  refine nx (sl 0 rfl (sl 1 rfl (sl 4 rfl (sl 5 rfl (sl 6 rfl sn))))) (el 10 rfl (el 110 rfl en)) ?_
  refine tri_block ?_
  refine tri_loop (ι := Nat) (fun i => [(0, T.l (cZi k) xs), (1, T.l (cZi l) ys), (4, T.p 10 0), (5, T.p 110 0), (6, T.c (.int .i64 (i : Int)))]) (fun i => [(10, some (Ent.box 26 [T.c (.bool false), T.c (.slice none 0 0)])), (110, some (Ent.box 26 [T.Z (dotU xs ys i) (i * (k + l + 1))]))]) (fun i => xs.length - i) (fun i => (i ≤ xs.length)) 0 (Nat.zero_le _) (sl 0 rfl (sl 1 rfl (sl 4 rfl (sl 5 rfl (sl 6 rfl sn))))) (el 10 rfl (ew 110 rfl (box_pack (zz0.trans (z_up (Nat.zero_le _))) (by show (2 : Nat) ≠ 0; omega)) en)) ?_
  rintro i hi
  refine tri_sub (sl 0 rfl (sl 1 rfl (sl 4 rfl (sl 5 rfl (sl 6 rfl sn))))) (el 10 rfl (el 110 rfl en)) ?_
  have hib : i * (k + l + 1) ≤ xs.length * (k + l + 1) := Nat.mul_le_mul_right _ hi
  refine tri_seq ?_
  refine tri_seq ?_
  rcases Nat.lt_or_ge i xs.length with h9 | h9
  · refine tri_reg mixed hcx ?_ _ _
    refine mv rfl ?_
    refine mv rfl ?_
    refine ln slZs rfl ?_
    refine clt rfl rfl (decide_eq_true (by omega)) ?_
    refine mv rfl ?_
    refine mv rfl ?_ (hg := gd1)
    refine mv rfl ?_ (hg := gd1)
    refine ln slZs rfl ?_ (hg := gd1)
    refine clt rfl rfl (decide_eq_true (by omega)) ?_ (hg := gd1)
    refine pk rfl rfl ?_
    refine ⟨by kernel_rfl, ?_⟩
    refine nx (sl 0 rfl (sl 1 rfl (sl 4 rfl (sl 5 rfl (sl 6 rfl (sl 16 rfl sn)))))) (el 10 rfl (el 110 rfl en)) ?_
    refine tri_true rfl rfl ?_
    refine tri_skip ?_
    refine nx (sl 0 rfl (sl 1 rfl (sl 4 rfl (sl 5 rfl (sl 6 rfl sn))))) (el 10 rfl (el 110 rfl en)) ?_
    refine tri_seq ?_
    refine tri_block ?_
    refine tri_reg mixed hcx ?_ _ _
    refine ld rfl rfl tyZ rfl ?_
    refine mv rfl ?_
    refine mv rfl ?_
    refine ix rfl rfl slZs ⟨rfl, by omega⟩ ?_
    refine lf rfl tyZ ?_
    refine mv rfl ?_
    refine mv rfl ?_
    refine ix rfl rfl slZs ⟨rfl, by omega⟩ ?_
    refine lf rfl tyZ ?_
    refine ca rfl (h := r02_Mul (by omega) (by omega)) (hn := ?_)
    refine ca rfl (h := r02_Add (by omega) (by omega)) (hn := ?_)
    refine st rfl rfl rfl tyZ rfl ?_
    refine ⟨by kernel_rfl, ?_⟩
    refine pn_blk ?_
    refine nx (sl 0 rfl (sl 1 rfl (sl 4 rfl (sl 5 rfl (sl 6 rfl sn))))) (el 10 rfl (el 110 rfl en)) ?_
    refine tri_reg mixed hcx ?_ _ _
    refine mv rfl ?_
    refine ad (((i + 1 : Nat) : Int)) rfl rfl rfl (by omega) ?_
    refine asg rfl ?_
    refine ⟨by kernel_rfl, ?_⟩
    exact pn_back (i + 1) (by first | omega | (dsimp only; omega)) (by omega) (sl 0 rfl (sl 1 rfl (sl 4 rfl (sl 5 rfl (sl 6 rfl sn))))) (el 10 rfl (ew 110 rfl (box_pack1 (z_up (by rw [Nat.succ_mul]; omega))) en))
  · refine tri_reg mixed hcx ?_ _ _
    refine mv rfl ?_
    refine mv rfl ?_
    refine ln slZs rfl ?_
    refine clt rfl rfl (decide_eq_false (by omega)) ?_
    refine mv rfl ?_
    refine j_off rfl rfl rfl rfl ?_
    refine j_off rfl rfl rfl rfl ?_
    refine j_off rfl rfl rfl rfl ?_
    refine j_off rfl rfl rfl rfl ?_
    refine pk rfl rfl ?_
    refine ⟨by kernel_rfl, ?_⟩
    refine nx (sl 0 rfl (sl 1 rfl (sl 4 rfl (sl 5 rfl (sl 6 rfl (sl 16 rfl sn)))))) (el 10 rfl (el 110 rfl en)) ?_
    refine tri_false rfl rfl ?_
    refine tri_exit ?_
    repeat (first | refine pn_then ?_ | refine pn_oth (by decide) ?_)
    refine pn_ex ?_
    obtain rfl : i = xs.length := by omega
    refine nx (sl 4 rfl (sl 5 rfl sn)) (el 10 rfl (el 110 rfl en)) ?_
    refine tri_seq ?_
    refine tri_reg mixed hcx ?_ _ _
    refine ld rfl rfl tyZ rfl ?_
    refine st rfl rfl rfl tyZ rfl ?_
    refine ⟨by kernel_rfl, ?_⟩
    refine nx (sl 4 rfl sn) (el 10 rfl (el 110 rfl en)) ?_
    refine tri_ret ?_
    repeat (first | refine pn_thenr ?_ | refine pn_blkr ?_)
    exact ret1 hcx rfl (rv_cell (c' := cx) (n := 0) rfl rfl tyZ rfl) (.refl _) en

theorem q_pos {q : Rat} : 0 < q ↔ 0 < q.num := by
  constructor
  · intro h
    have h3 : 0 ≤ q.num := Rat.num_nonneg.2 (Rat.le_of_lt h)
    have h4 : q.num ≠ 0 := fun e => by rw [Rat.num_eq_zero] at e; rw [e] at h; exact Rat.lt_irrefl h
    omega
  · intro h
    refine Rat.lt_of_le_of_ne (Rat.num_nonneg.1 (by omega)) fun e => ?_
    rw [← e] at h
    exact absurd h (by decide)
theorem any_l {α : Type} {c : Cod α} {l : List α} : (T.l c l).le T.any := fun β u v ⟨A, n, k, e, _⟩ => by subst e; rfl

theorem r05_Make {b : List (List Int)} {kb m K : Nat} (hall : Ok b b.length) (hbl : b.length ≤ 1048576) (hm : ∀ i, i < b.length → (b.getD i []).length = m) (hmm : m ≤ 1048576) (hkb : kb ≤ 1048576) (hmk : m * (kb + kb + 1) ≤ 17179869184) (hQ : ∀ i, i < b.length → Ok b i → ∀ k j, k ≤ j → j ≤ i → QB (Mr (gR b) k i j) K) (hM : ∀ i j, j < i → i < b.length → Ok b i → QB (mR b i j) K) (hK : K ≤ 268435456) : Fn Tryz.prog 38 [T.l (cL (cZi kb)) b] [] [] [] (T.tup [T.st [T.l (cL (cQ K)) (ML b b.length), T.l (cQ K) (SL b b.length)], T.c (.bool true)]) := by
  refine fn_of Tryz.func38 rfl (by show 1 ≤ 115; decide) fun cx hcx => ?_
  refine tri_sub (sl 0 rfl sn) en ?_
  refine tri_seq ?_
  refine tri_reg mixed hcx ?_ _ _
  refine nw 10 zeR ?_
  refine asg rfl ?_
  refine ⟨by kernel_rfl, ?_⟩
  refine nx (sl 0 rfl (sl 2 rfl sn)) (el 10 rfl en) ?_
  refine tri_seq ?_
  refine tri_reg mixed hcx ?_ _ _
  refine nw 110 zeR ?_
  refine ⟨by kernel_rfl, ?_⟩
  refine nx (sl 0 rfl (sl 2 rfl (sl 4 rfl sn))) (el 10 rfl (el 110 rfl en)) ?_
  refine tri_seq ?_
  refine tri_seq ?_
  refine tri_nilb (cL (cQ K)) 23 (bl := [T.c (.slice none 0 0), T.c (.slice none 0 0)]) (bl' := [T.o 8, T.c (.slice none 0 0)]) 110 8 rfl ⟨.inr ⟨rfl, rfl⟩, .inl ⟨rfl, by show 8 ∉ []; decide⟩, trivial⟩ (by rw [hcx]; kernel_rfl) ?_
  refine tri_nilb (cQ K) 28 (bl := [T.o 8, T.c (.slice none 0 0)]) (bl' := [T.o 8, T.o 9]) 110 9 rfl ⟨.inl ⟨rfl, by show 9 ∉ [8]; decide⟩, .inr ⟨rfl, rfl⟩, trivial⟩ (by rw [hcx]; kernel_rfl) ?_
  refine tri_reg mixed hcx ?_ _ _
  refine asg rfl ?_
  refine ⟨by kernel_rfl, ?_⟩
  refine nx (sl 0 rfl (sl 2 rfl (sl 4 rfl (sl 5 rfl sn)))) (el 10 rfl (el 110 rfl (el 8 rfl (el 9 rfl en)))) ?_
  refine tri_block ?_
  refine tri_loop (ι := Nat) (fun i => [(0, T.l (cL (cZi kb)) b), (2, T.p 10 0), (4, T.p 110 0), (5, T.c (.int .i64 (i : Int)))]) (fun i => [(10, some (Ent.box 44 [T.c (.slice none 0 0), T.c (.slice none 0 0)])), (8, some (Ent.row (cL (cQ K)) 23 (ML b i))), (9, some (Ent.row (cQ K) 28 (SL b i))), (110, some (Ent.box 44 [T.o 8, T.o 9]))]) (fun i => b.length - i) (fun i => (i ≤ b.length) ∧ (Ok b i)) 0 ⟨Nat.zero_le _, fun k hk => absurd hk (Nat.not_lt_zero _)⟩ (sl 0 rfl (sl 2 rfl (sl 4 rfl (sl 5 rfl sn)))) (el 10 rfl (el 8 rfl (el 9 rfl (el 110 rfl en)))) ?_
  rintro i ⟨hi, hok⟩
  refine tri_sub (sl 0 rfl (sl 2 rfl (sl 4 rfl (sl 5 rfl sn)))) (el 10 rfl (el 8 rfl (el 9 rfl (el 110 rfl en)))) ?_
  refine tri_seq ?_
  refine tri_seq ?_
  refine tri_reg mixed hcx ?_ _ _
  refine mv rfl ?_
  refine mv rfl ?_
  refine ln slZss rfl ?_
  refine clt rfl rfl rfl ?_
  refine ⟨by kernel_rfl, ?_⟩
  refine nx (sl 0 rfl (sl 2 rfl (sl 4 rfl (sl 5 rfl (sl 15 rfl sn))))) (el 10 rfl (el 8 rfl (el 9 rfl (el 110 rfl en)))) ?_
  refine tri_if rfl (fun hc => ?_) (fun hc => ?_)
  · have hmi : (b.getD i (cL (cZi kb)).dflt).length = m := hm i (by omega)
    have hQi := hQ i (by omega) hok
    have hmk2 : (b.getD i (cL (cZi kb)).dflt).length * (kb + kb + 1) ≤ 17179869184 := by rw [hmi]; exact hmk
    have hMl : (ML b i).length = i := ML_len
    have hSl : (SL b i).length = i := SL_len
    refine tri_skip ?_
    refine nx (sl 0 rfl (sl 2 rfl (sl 4 rfl (sl 5 rfl sn)))) (el 10 rfl (el 8 rfl (el 9 rfl (el 110 rfl en)))) ?_
    refine tri_seq ?_
    refine tri_block ?_
    refine tri_seq ?_
    refine tri_reg mixed hcx ?_ _ _
    refine asg rfl ?_
    refine ⟨by kernel_rfl, ?_⟩
    refine nx (sl 0 rfl (sl 2 rfl (sl 4 rfl (sl 5 rfl (sl 6 rfl sn))))) (el 10 rfl (el 8 rfl (el 9 rfl (el 110 rfl en)))) ?_
    refine tri_seq ?_
    refine tri_seq ?_
    refine tri_nil 6 7 28 (cQ K) rfl (by rw [hcx]; kernel_rfl) ?_
    refine tri_reg mixed hcx ?_ _ _
    refine asg rfl ?_
    refine ⟨by kernel_rfl, ?_⟩
    refine nx (sl 0 rfl (sl 2 rfl (sl 4 rfl (sl 5 rfl (sl 6 rfl (sl 7 rfl sn)))))) (el 10 rfl (el 8 rfl (el 9 rfl (el 110 rfl (el 7 rfl en))))) ?_
    refine tri_block ?_
    refine tri_loop (ι := Nat) (fun j => [(0, T.l (cL (cZi kb)) b), (2, T.p 10 0), (4, T.p 110 0), (5, T.c (.int .i64 (i : Int))), (6, T.o 7), (7, T.c (.int .i64 (j : Int)))]) (fun j => [(10, some (Ent.box 44 [T.c (.slice none 0 0), T.c (.slice none 0 0)])), (8, some (Ent.row (cL (cQ K)) 23 (ML b i))), (9, some (Ent.row (cQ K) 28 (SL b i))), (110, some (Ent.box 44 [T.o 8, T.o 9])), (7, some (Ent.row (cQ K) 28 (mL b i j)))]) (fun j => i - j) (fun j => (j ≤ i)) 0 (Nat.zero_le _) (sl 0 rfl (sl 2 rfl (sl 4 rfl (sl 5 rfl (sl 6 rfl (sl 7 rfl sn)))))) (el 10 rfl (el 8 rfl (el 9 rfl (el 110 rfl (el 7 rfl en))))) ?_
    rintro j hj
    refine tri_sub (sl 0 rfl (sl 2 rfl (sl 4 rfl (sl 5 rfl (sl 6 rfl (sl 7 rfl sn)))))) (el 10 rfl (el 8 rfl (el 9 rfl (el 110 rfl (el 7 rfl en))))) ?_
    refine tri_seq ?_
    refine tri_seq ?_
    refine tri_reg mixed hcx ?_ _ _
    refine mv rfl ?_
    refine mv rfl ?_
    refine clt rfl rfl rfl ?_
    refine ⟨by kernel_rfl, ?_⟩
    refine nx (sl 0 rfl (sl 2 rfl (sl 4 rfl (sl 5 rfl (sl 6 rfl (sl 7 rfl (sl 20 rfl sn))))))) (el 10 rfl (el 8 rfl (el 9 rfl (el 110 rfl (el 7 rfl en))))) ?_
    refine tri_if rfl (fun hd => ?_) (fun hd => ?_)
    · have hmj : (b.getD j (cL (cZi kb)).dflt).length = m := hm j (by omega)
      have hsj : sR b j ≠ 0 := ok_ne hok (by omega)
      have hml : (mL b i j).length = j := mL_len
      have hMj : ((ML b i).getD j (cL (cQ K)).dflt).length = j := by rw [show (ML b i).getD j (cL (cQ K)).dflt = mL b j j from ML_at (by omega), mL_len]
      refine tri_skip ?_
      refine nx (sl 0 rfl (sl 2 rfl (sl 4 rfl (sl 5 rfl (sl 6 rfl (sl 7 rfl sn)))))) (el 10 rfl (el 8 rfl (el 9 rfl (el 110 rfl (el 7 rfl en))))) ?_
      refine tri_seq ?_
      refine tri_block ?_
      refine tri_seq ?_
      refine tri_reg mixed hcx ?_ _ _
      refine mv rfl ?_
      refine mv rfl ?_
      refine ix rfl rfl slZss ⟨rfl, by omega⟩ ?_
      refine lf rfl tyZs ?_
      refine mv rfl ?_
      refine mv rfl ?_
      refine ix rfl rfl slZss ⟨rfl, by omega⟩ ?_
      refine lf rfl tyZs ?_
      refine ca rfl (h := r05_Dot (by omega) (by omega) (by omega) (by omega) (by omega)) (hn := ?_)
      refine ca rfl (h := r03_Of (by omega)) (hn := ?_)
      refine nw 920 zeQ ?_
      refine st rfl rfl rfl tyQ rfl ?_
      refine ⟨by kernel_rfl, ?_⟩
      refine nx (sl 0 rfl (sl 2 rfl (sl 4 rfl (sl 5 rfl (sl 6 rfl (sl 7 rfl (sl 8 rfl sn))))))) (el 10 rfl (el 8 rfl (el 9 rfl (el 110 rfl (el 7 rfl (el 920 rfl en)))))) ?_
      refine tri_seq ?_
      refine tri_seq ?_
      refine tri_reg mixed hcx ?_ _ _
      refine asg rfl ?_
      refine ⟨by kernel_rfl, ?_⟩
      refine nx (sl 0 rfl (sl 2 rfl (sl 4 rfl (sl 5 rfl (sl 6 rfl (sl 7 rfl (sl 8 rfl (sl 9 rfl sn)))))))) (el 10 rfl (el 8 rfl (el 9 rfl (el 110 rfl (el 7 rfl (el 920 rfl en)))))) ?_
      refine tri_block ?_
      refine tri_loop (ι := Nat) (fun e => [(0, T.l (cL (cZi kb)) b), (2, T.p 10 0), (4, T.p 110 0), (5, T.c (.int .i64 (i : Int))), (6, T.o 7), (7, T.c (.int .i64 (j : Int))), (8, T.p 920 0), (9, T.c (.int .i64 (e : Int)))]) (fun e => [(10, some (Ent.box 44 [T.c (.slice none 0 0), T.c (.slice none 0 0)])), (8, some (Ent.row (cL (cQ K)) 23 (ML b i))), (9, some (Ent.row (cQ K) 28 (SL b i))), (110, some (Ent.box 44 [T.o 8, T.o 9])), (7, some (Ent.row (cQ K) 28 (mL b i j))), (920, some (Ent.box 28 [T.Q (Mr (gR b) e i j) K]))]) (fun e => j - e) (fun e => (e ≤ j)) 0 (Nat.zero_le _) (sl 0 rfl (sl 2 rfl (sl 4 rfl (sl 5 rfl (sl 6 rfl (sl 7 rfl (sl 8 rfl (sl 9 rfl sn)))))))) (el 10 rfl (el 8 rfl (el 9 rfl (el 110 rfl (el 7 rfl (ew 920 rfl (box_pack1 (q_qb rfl (hQi 0 j (by omega) (by omega)))) en)))))) ?_
      rintro e he
      refine tri_sub (sl 0 rfl (sl 2 rfl (sl 4 rfl (sl 5 rfl (sl 6 rfl (sl 7 rfl (sl 8 rfl (sl 9 rfl sn)))))))) (el 10 rfl (el 8 rfl (el 9 rfl (el 110 rfl (el 7 rfl (el 920 rfl en)))))) ?_
      refine tri_seq ?_
      refine tri_seq ?_
      refine tri_reg mixed hcx ?_ _ _
      refine mv rfl ?_
      refine mv rfl ?_
      refine clt rfl rfl rfl ?_
      refine ⟨by kernel_rfl, ?_⟩
      refine nx (sl 0 rfl (sl 2 rfl (sl 4 rfl (sl 5 rfl (sl 6 rfl (sl 7 rfl (sl 8 rfl (sl 9 rfl (sl 35 rfl sn))))))))) (el 10 rfl (el 8 rfl (el 9 rfl (el 110 rfl (el 7 rfl (el 920 rfl en)))))) ?_
      refine tri_if rfl (fun he2 => ?_) (fun he2 => ?_)
      · have hse : sR b e ≠ 0 := ok_ne hok (by omega)
        refine tri_skip ?_
        refine nx (sl 0 rfl (sl 2 rfl (sl 4 rfl (sl 5 rfl (sl 6 rfl (sl 7 rfl (sl 8 rfl (sl 9 rfl sn)))))))) (el 10 rfl (el 8 rfl (el 9 rfl (el 110 rfl (el 7 rfl (el 920 rfl en)))))) ?_
        refine tri_seq ?_
        refine tri_block ?_
        refine tri_reg mixed hcx ?_ _ _
        refine ld rfl rfl tyQ rfl ?_
        refine fa rfl fMu 0 ?_
        refine ld rfl rfl tyQss rfl ?_
        refine mv rfl ?_
        refine ixo rfl rfl rfl slQss ⟨rfl, by omega⟩ ?_
        refine lo _ rfl rfl tyQs ⟨rfl, rfl, by omega⟩ ?_
        refine mv rfl ?_
        refine ix rfl rfl slQs ⟨rfl, by omega⟩ ?_
        refine lf rfl tyQ ?_
        refine mv rfl ?_
        refine mv rfl ?_
        refine ixo rfl rfl rfl slQs ⟨rfl, by omega⟩ ?_
        refine lo _ rfl rfl tyQ ⟨rfl, rfl, by omega⟩ ?_
        refine ca rfl (h := r03_Mul (by omega) (by omega)) (hn := ?_)
        refine fa rfl fStar 1 ?_
        refine ld rfl rfl tyQs rfl ?_
        refine mv rfl ?_
        refine ixo rfl rfl rfl slQs ⟨rfl, by omega⟩ ?_
        refine lo _ rfl rfl tyQ ⟨rfl, rfl, by omega⟩ ?_
        refine ca rfl (h := r03_Mul (by omega) (by omega)) (hn := ?_)
        refine ca rfl (h := r03_Sub (by omega) (by omega)) (hn := ?_)
        refine st rfl rfl rfl tyQ rfl ?_
        refine ⟨by kernel_rfl, ?_⟩
        refine pn_blk ?_
        refine nx (sl 0 rfl (sl 2 rfl (sl 4 rfl (sl 5 rfl (sl 6 rfl (sl 7 rfl (sl 8 rfl (sl 9 rfl sn)))))))) (el 10 rfl (el 8 rfl (el 9 rfl (el 110 rfl (el 7 rfl (el 920 rfl en)))))) ?_
        refine tri_reg mixed hcx ?_ _ _
        refine mv rfl ?_
        refine ad (((e + 1 : Nat) : Int)) rfl rfl rfl (by omega) ?_
        refine asg rfl ?_
        refine ⟨by kernel_rfl, ?_⟩
        exact pn_back (e + 1) (by first | omega | (dsimp only; omega)) (by omega) (sl 0 rfl (sl 2 rfl (sl 4 rfl (sl 5 rfl (sl 6 rfl (sl 7 rfl (sl 8 rfl (sl 9 rfl sn)))))))) (el 10 rfl (el 8 rfl (el 9 rfl (el 110 rfl (el 7 rfl (ew 920 rfl (box_pack1 (q_qb (by rw [show (ML b i).getD j (cL (cQ K)).dflt = mL b j j from ML_at (by omega), show (mL b j j).getD e (cQ K).dflt = mR b j e from mL_at (by omega), show (mL b i j).getD e (cQ K).dflt = mR b i e from mL_at (by omega), show (SL b i).getD e (cQ K).dflt = sR b e from SL_at (by omega)]; exact mr_step b hse) (hQi (e + 1) j (by omega) (by omega)))) en))))))
      · refine tri_exit ?_
        repeat (first | refine pn_then ?_ | refine pn_oth (by decide) ?_)
        refine pn_ex ?_
        obtain rfl : j = e := by omega
        refine nx (sl 0 rfl (sl 2 rfl (sl 4 rfl (sl 5 rfl (sl 6 rfl (sl 7 rfl (sl 8 rfl sn))))))) (el 10 rfl (el 8 rfl (el 9 rfl (el 110 rfl (el 7 rfl (el 920 rfl en)))))) ?_
        refine tri_reg mixed hcx ?_ _ _
        refine mv rfl ?_
        refine ld rfl rfl tyQ rfl ?_
        refine fa rfl fStar 1 ?_
        refine ld rfl rfl tyQs rfl ?_
        refine mv rfl ?_
        refine ixo rfl rfl rfl slQs ⟨rfl, by omega⟩ ?_
        refine lo _ rfl rfl tyQ ⟨rfl, rfl, by omega⟩ ?_
        refine ca rfl (h := r03_Div (by rw [show (SL b i).getD j (cQ K).dflt = sR b j from SL_at (by omega)]; exact hsj) (by omega) (by omega)) (hn := ?_)
        refine bs (c := cQ K) (xs := [mR b i j]) slQs rfl ⟨q_qb (by rw [show (SL b i).getD j (cQ K).dflt = sR b j from SL_at (by omega)]; rfl) (hM i j (by omega) (by omega) hok), trivial⟩ ?_
        refine ap 1419 rfl rfl rfl slQs (by simp only [List.length_cons, List.length_nil]; omega) (by decide) ?_
        refine asg rfl ?_
        refine ⟨by kernel_rfl, ?_⟩
        refine pn_blk ?_
        refine nx (sl 0 rfl (sl 2 rfl (sl 4 rfl (sl 5 rfl (sl 6 rfl (sl 7 rfl sn)))))) (el 10 rfl (el 8 rfl (el 9 rfl (el 110 rfl (el 920 rfl (el 1419 rfl en)))))) ?_
        refine tri_reg mixed hcx ?_ _ _
        refine mv rfl ?_
        refine ad (((j + 1 : Nat) : Int)) rfl rfl rfl (by omega) ?_
        refine asg rfl ?_
        refine ⟨by kernel_rfl, ?_⟩
        refine pn_sub (sl 0 rfl (sl 2 rfl (sl 4 rfl (sl 5 rfl (sl 6 rfl (sl 7 rfl sn)))))) (el 10 rfl (el 8 rfl (el 9 rfl (el 110 rfl (el 920 rfl (el 1419 rfl en)))))) ?_
        refine pn_ren 6 7 1419 rfl rfl (by rw [hcx]; kernel_rfl) ?_
        exact pn_back (j + 1) (by first | omega | (dsimp only; omega)) (by omega) (sl 0 rfl (sl 2 rfl (sl 4 rfl (sl 5 rfl (sl 6 rfl (sl 7 rfl sn)))))) (el 10 rfl (el 8 rfl (el 9 rfl (el 110 rfl (ew 7 rfl (.of (by rw [mL_succ])) en)))))
    · refine tri_exit ?_
      repeat (first | refine pn_then ?_ | refine pn_oth (by decide) ?_)
      refine pn_ex ?_
      obtain rfl : i = j := by omega
      refine nx (sl 0 rfl (sl 2 rfl (sl 4 rfl (sl 5 rfl (sl 6 rfl sn))))) (el 10 rfl (el 8 rfl (el 9 rfl (el 110 rfl (el 7 rfl en))))) ?_
      refine tri_seq ?_
      refine tri_reg mixed hcx ?_ _ _
      refine mv rfl ?_
      refine mv rfl ?_
      refine ix rfl rfl slZss ⟨rfl, by omega⟩ ?_
      refine lf rfl tyZs ?_
      refine mv rfl ?_
      refine mv rfl ?_
      refine ix rfl rfl slZss ⟨rfl, by omega⟩ ?_
      refine lf rfl tyZs ?_
      refine ca rfl (h := r05_Dot (by omega) (by omega) (by omega) (by omega) (by omega)) (hn := ?_)
      refine ca rfl (h := r03_Of (by omega)) (hn := ?_)
      refine nw 1520 zeQ ?_
      refine st rfl rfl rfl tyQ rfl ?_
      refine ⟨by kernel_rfl, ?_⟩
      refine nx (sl 0 rfl (sl 2 rfl (sl 4 rfl (sl 5 rfl (sl 6 rfl (sl 10 rfl sn)))))) (el 10 rfl (el 8 rfl (el 9 rfl (el 110 rfl (el 7 rfl (el 1520 rfl en)))))) ?_
      refine tri_seq ?_
      refine tri_seq ?_
      refine tri_reg mixed hcx ?_ _ _
      refine asg rfl ?_
      refine ⟨by kernel_rfl, ?_⟩
      refine nx (sl 0 rfl (sl 2 rfl (sl 4 rfl (sl 5 rfl (sl 6 rfl (sl 10 rfl (sl 11 rfl sn))))))) (el 10 rfl (el 8 rfl (el 9 rfl (el 110 rfl (el 7 rfl (el 1520 rfl en)))))) ?_
      refine tri_block ?_
      refine tri_loop (ι := Nat) (fun e => [(0, T.l (cL (cZi kb)) b), (2, T.p 10 0), (4, T.p 110 0), (5, T.c (.int .i64 (i : Int))), (6, T.o 7), (10, T.p 1520 0), (11, T.c (.int .i64 (e : Int)))]) (fun e => [(10, some (Ent.box 44 [T.c (.slice none 0 0), T.c (.slice none 0 0)])), (8, some (Ent.row (cL (cQ K)) 23 (ML b i))), (9, some (Ent.row (cQ K) 28 (SL b i))), (110, some (Ent.box 44 [T.o 8, T.o 9])), (7, some (Ent.row (cQ K) 28 (mL b i i))), (1520, some (Ent.box 28 [T.Q (Mr (gR b) e i i) K]))]) (fun e => i - e) (fun e => (e ≤ i)) 0 (Nat.zero_le _) (sl 0 rfl (sl 2 rfl (sl 4 rfl (sl 5 rfl (sl 6 rfl (sl 10 rfl (sl 11 rfl sn))))))) (el 10 rfl (el 8 rfl (el 9 rfl (el 110 rfl (el 7 rfl (ew 1520 rfl (box_pack1 (q_qb rfl (hQi 0 i (by omega) (by omega)))) en)))))) ?_
      rintro e he
      refine tri_sub (sl 0 rfl (sl 2 rfl (sl 4 rfl (sl 5 rfl (sl 6 rfl (sl 10 rfl (sl 11 rfl sn))))))) (el 10 rfl (el 8 rfl (el 9 rfl (el 110 rfl (el 7 rfl (el 1520 rfl en)))))) ?_
      have hml : (mL b i i).length = i := mL_len
      refine tri_seq ?_
      refine tri_seq ?_
      refine tri_reg mixed hcx ?_ _ _
      refine mv rfl ?_
      refine mv rfl ?_
      refine clt rfl rfl rfl ?_
      refine ⟨by kernel_rfl, ?_⟩
      refine nx (sl 0 rfl (sl 2 rfl (sl 4 rfl (sl 5 rfl (sl 6 rfl (sl 10 rfl (sl 11 rfl (sl 81 rfl sn)))))))) (el 10 rfl (el 8 rfl (el 9 rfl (el 110 rfl (el 7 rfl (el 1520 rfl en)))))) ?_
      refine tri_if rfl (fun he3 => ?_) (fun he3 => ?_)
      · have hse : sR b e ≠ 0 := ok_ne hok (by omega)
        refine tri_skip ?_
        refine nx (sl 0 rfl (sl 2 rfl (sl 4 rfl (sl 5 rfl (sl 6 rfl (sl 10 rfl (sl 11 rfl sn))))))) (el 10 rfl (el 8 rfl (el 9 rfl (el 110 rfl (el 7 rfl (el 1520 rfl en)))))) ?_
        refine tri_seq ?_
        refine tri_block ?_
        refine tri_reg mixed hcx ?_ _ _
        refine ld rfl rfl tyQ rfl ?_
        refine mv rfl ?_
        refine mv rfl ?_
        refine ixo rfl rfl rfl slQs ⟨rfl, by omega⟩ ?_
        refine lo _ rfl rfl tyQ ⟨rfl, rfl, by omega⟩ ?_
        refine ca rfl (h := r05_square (by omega)) (hn := ?_)
        refine fa rfl fStar 1 ?_
        refine ld rfl rfl tyQs rfl ?_
        refine mv rfl ?_
        refine ixo rfl rfl rfl slQs ⟨rfl, by omega⟩ ?_
        refine lo _ rfl rfl tyQ ⟨rfl, rfl, by omega⟩ ?_
        refine ca rfl (h := r03_Mul (by omega) (by omega)) (hn := ?_)
        refine ca rfl (h := r03_Sub (by omega) (by omega)) (hn := ?_)
        refine st rfl rfl rfl tyQ rfl ?_
        refine ⟨by kernel_rfl, ?_⟩
        refine pn_blk ?_
        refine nx (sl 0 rfl (sl 2 rfl (sl 4 rfl (sl 5 rfl (sl 6 rfl (sl 10 rfl (sl 11 rfl sn))))))) (el 10 rfl (el 8 rfl (el 9 rfl (el 110 rfl (el 7 rfl (el 1520 rfl en)))))) ?_
        refine tri_reg mixed hcx ?_ _ _
        refine mv rfl ?_
        refine ad (((e + 1 : Nat) : Int)) rfl rfl rfl (by omega) ?_
        refine asg rfl ?_
        refine ⟨by kernel_rfl, ?_⟩
        exact pn_back (e + 1) (by first | omega | (dsimp only; omega)) (by omega) (sl 0 rfl (sl 2 rfl (sl 4 rfl (sl 5 rfl (sl 6 rfl (sl 10 rfl (sl 11 rfl sn))))))) (el 10 rfl (el 8 rfl (el 9 rfl (el 110 rfl (el 7 rfl (ew 1520 rfl (box_pack1 (q_qb (by rw [show (mL b i i).getD e (cQ K).dflt = mR b i e from mL_at (by omega), show (SL b i).getD e (cQ K).dflt = sR b e from SL_at (by omega)]; exact mr_step2 b hse) (hQi (e + 1) i (by omega) (by omega)))) en))))))
      · refine tri_exit ?_
        repeat (first | refine pn_then ?_ | refine pn_oth (by decide) ?_)
        refine pn_ex ?_
        obtain rfl : i = e := by omega
        refine nx (sl 0 rfl (sl 2 rfl (sl 4 rfl (sl 5 rfl (sl 6 rfl (sl 10 rfl sn)))))) (el 10 rfl (el 8 rfl (el 9 rfl (el 110 rfl (el 7 rfl (el 1520 rfl en)))))) ?_
        refine tri_seq ?_
        refine tri_seq ?_
        have hps : 0 < sR b i := hall i (by omega)
        · have hnx : Ok b (i + 1) := fun k hk => by rcases Nat.lt_or_eq_of_le (Nat.le_of_lt_succ hk) with h8 | h8; exact hok k h8; rw [h8]; exact hps
          have hsg : sg (Mr (gR b) i i i).num = 1 := sg_pos (q_pos.1 hps)
          refine tri_sub (sl 0 rfl (sl 2 rfl (sl 4 rfl (sl 5 rfl (sl 6 rfl (sl 10 rfl sn)))))) (el 10 rfl (el 8 rfl (el 9 rfl (el 110 rfl (el 7 rfl (ew 1520 rfl box_open en)))))) ?_
          refine tri_reg mixed hcx ?_ _ _
          refine fa rfl fNum 0 ?_
          refine ld rfl rfl tyZ rfl ?_
          refine ca rfl (h := r02_Sign (by omega)) (hn := ?_)
          refine cle rfl rfl (decide_eq_false (by omega)) ?_
          refine ⟨by kernel_rfl, ?_⟩
          refine nx (sl 0 rfl (sl 2 rfl (sl 4 rfl (sl 5 rfl (sl 6 rfl (sl 10 rfl (sl 100 rfl sn))))))) (el 10 rfl (el 8 rfl (el 9 rfl (el 110 rfl (el 7 rfl (el 1520 rfl en)))))) ?_
          refine tri_false rfl rfl ?_
          refine tri_skip ?_
          refine nx (sl 0 rfl (sl 2 rfl (sl 4 rfl (sl 5 rfl (sl 6 rfl (sl 10 rfl sn)))))) (el 10 rfl (el 8 rfl (el 9 rfl (el 110 rfl (el 7 rfl (el 1520 rfl en)))))) ?_
          refine tri_seq ?_
          refine tri_fz 7 rfl ?_
          refine tri_rd 6 7 rfl rfl ?_
          refine tri_reg mixed hcx ?_ _ _
          refine fa rfl fMu 0 ?_
          refine ld rfl rfl tyQss rfl ?_
          refine mv rfl ?_
          refine bs (c := cL (cQ K)) (xs := [mL b i i]) slQss rfl ⟨.refl _, trivial⟩ ?_
          refine ap 2214 rfl rfl rfl slQss (by simp only [List.length_cons, List.length_nil]; omega) (by decide) ?_
          refine fa rfl fMu 0 ?_
          refine st rfl rfl rfl tyQss rfl ?_
          refine ⟨by kernel_rfl, ?_⟩
          refine nx (sl 0 rfl (sl 2 rfl (sl 4 rfl (sl 5 rfl (sl 10 rfl sn))))) (el 10 rfl (el 9 rfl (el 110 rfl (el 1520 rfl (el 2214 rfl en))))) ?_
          refine tri_reg mixed hcx ?_ _ _
          refine fa rfl fStar 1 ?_
          refine ld rfl rfl tyQs rfl ?_
          refine ld rfl rfl tyQ rfl ?_
          refine bs (c := cQ K) (xs := [sR b i]) slQs rfl ⟨.refl _, trivial⟩ ?_
          refine ap 2314 rfl rfl rfl slQs (by simp only [List.length_cons, List.length_nil]; omega) (by decide) ?_
          refine fa rfl fStar 1 ?_
          refine st rfl rfl rfl tyQs rfl ?_
          refine ⟨by kernel_rfl, ?_⟩
          refine pn_blk ?_
          refine nx (sl 0 rfl (sl 2 rfl (sl 4 rfl (sl 5 rfl sn)))) (el 10 rfl (el 110 rfl (el 1520 rfl (el 2214 rfl (el 2314 rfl en))))) ?_
          refine tri_reg mixed hcx ?_ _ _
          refine mv rfl ?_
          refine ad (((i + 1 : Nat) : Int)) rfl rfl rfl (by omega) ?_
          refine asg rfl ?_
          refine ⟨by kernel_rfl, ?_⟩
          refine pn_sub (sl 0 rfl (sl 2 rfl (sl 4 rfl (sl 5 rfl sn)))) (el 10 rfl (el 110 rfl (el 2214 rfl (el 2314 rfl en)))) ?_
          refine pn_renb (bl := [T.o 2214, T.o 2314]) (bl' := [T.o 8, T.o 2314]) 110 8 2214 rfl rfl ⟨.inr ⟨rfl, rfl⟩, .inl ⟨rfl, by show 8 ∉ [2314]; decide⟩, trivial⟩ (by rw [hcx]; kernel_rfl) rfl ?_
          refine pn_renb (bl := [T.o 8, T.o 2314]) (bl' := [T.o 8, T.o 9]) 110 9 2314 rfl rfl ⟨.inl ⟨rfl, by show 9 ∉ [8]; decide⟩, .inr ⟨rfl, rfl⟩, trivial⟩ (by rw [hcx]; kernel_rfl) rfl ?_
          exact pn_back (i + 1) (by first | omega | (dsimp only; omega)) ⟨by omega, hnx⟩ (sl 0 rfl (sl 2 rfl (sl 4 rfl (sl 5 rfl sn)))) (el 10 rfl (ew 8 rfl (.of (by rw [ML_succ])) (ew 9 rfl (.of (by rw [SL_succ])) (el 110 rfl en))))
  · refine tri_exit ?_
    repeat (first | refine pn_then ?_ | refine pn_oth (by decide) ?_)
    refine pn_ex ?_
    have hin : i = b.length := by omega
    subst hin
    refine nx (sl 2 rfl (sl 4 rfl sn)) (el 10 rfl (el 8 rfl (el 9 rfl (el 110 rfl en)))) ?_
    refine tri_seq ?_
    refine tri_fz 8 rfl ?_
    refine tri_rdb (bl := [T.o 8, T.o 9]) (bl' := [T.l (cL (cQ K)) (ML b b.length), T.o 9]) 110 8 rfl rfl ⟨.inr ⟨rfl, rfl⟩, .inl rfl, trivial⟩ ?_
    refine tri_fz 9 rfl ?_
    refine tri_rdb (bl := [T.l (cL (cQ K)) (ML b b.length), T.o 9]) (bl' := [T.l (cL (cQ K)) (ML b b.length), T.l (cQ K) (SL b b.length)]) 110 9 rfl rfl ⟨.inl rfl, .inr ⟨rfl, rfl⟩, trivial⟩ ?_
    refine tri_reg mixed hcx ?_ _ _
    refine ld rfl rfl tyR rfl ?_
    refine st rfl rfl rfl tyR rfl ?_
    refine asg rfl ?_
    refine ⟨by kernel_rfl, ?_⟩
    refine nx (sl 2 rfl (sl 3 rfl sn)) (el 10 rfl (el 110 rfl en)) ?_
    refine tri_ret ?_
    repeat (first | refine pn_thenr ?_ | refine pn_blkr ?_)
    exact ret2 hcx rfl (rv_cell (c' := cx) (n := 0) rfl rfl tyR rfl) (rv_tmp rfl) (.refl _) en

theorem r05_Make_no {b : List (List Int)} {kb m K : Nat} (hno : ¬ Ok b b.length) (hbl : b.length ≤ 1048576) (hm : ∀ i, i < b.length → (b.getD i []).length = m) (hmm : m ≤ 1048576) (hkb : kb ≤ 1048576) (hmk : m * (kb + kb + 1) ≤ 17179869184) (hQ : ∀ i, i < b.length → Ok b i → ∀ k j, k ≤ j → j ≤ i → QB (Mr (gR b) k i j) K) (hM : ∀ i j, j < i → i < b.length → Ok b i → QB (mR b i j) K) (hK : K ≤ 268435456) : Fn Tryz.prog 38 [T.l (cL (cZi kb)) b] [] [] [] (T.tup [T.st [T.any, T.any], T.c (.bool false)]) := by
  refine fn_of Tryz.func38 rfl (by show 1 ≤ 115; decide) fun cx hcx => ?_
  refine tri_sub (sl 0 rfl sn) en ?_
  refine tri_seq ?_
  refine tri_reg mixed hcx ?_ _ _
  refine nw 10 zeR ?_
  refine asg rfl ?_
  refine ⟨by kernel_rfl, ?_⟩
  refine nx (sl 0 rfl (sl 2 rfl sn)) (el 10 rfl en) ?_
  refine tri_seq ?_
  refine tri_reg mixed hcx ?_ _ _
  refine nw 110 zeR ?_
  refine ⟨by kernel_rfl, ?_⟩
  refine nx (sl 0 rfl (sl 2 rfl (sl 4 rfl sn))) (el 10 rfl (el 110 rfl en)) ?_
  refine tri_seq ?_
  refine tri_seq ?_
  refine tri_nilb (cL (cQ K)) 23 (bl := [T.c (.slice none 0 0), T.c (.slice none 0 0)]) (bl' := [T.o 8, T.c (.slice none 0 0)]) 110 8 rfl ⟨.inr ⟨rfl, rfl⟩, .inl ⟨rfl, by show 8 ∉ []; decide⟩, trivial⟩ (by rw [hcx]; kernel_rfl) ?_
  refine tri_nilb (cQ K) 28 (bl := [T.o 8, T.c (.slice none 0 0)]) (bl' := [T.o 8, T.o 9]) 110 9 rfl ⟨.inl ⟨rfl, by show 9 ∉ [8]; decide⟩, .inr ⟨rfl, rfl⟩, trivial⟩ (by rw [hcx]; kernel_rfl) ?_
  refine tri_reg mixed hcx ?_ _ _
  refine asg rfl ?_
  refine ⟨by kernel_rfl, ?_⟩
  refine nx (sl 0 rfl (sl 2 rfl (sl 4 rfl (sl 5 rfl sn)))) (el 10 rfl (el 110 rfl (el 8 rfl (el 9 rfl en)))) ?_
  refine tri_block ?_
  refine tri_loop (ι := Nat) (fun i => [(0, T.l (cL (cZi kb)) b), (2, T.p 10 0), (4, T.p 110 0), (5, T.c (.int .i64 (i : Int)))]) (fun i => [(10, some (Ent.box 44 [T.c (.slice none 0 0), T.c (.slice none 0 0)])), (8, some (Ent.row (cL (cQ K)) 23 (ML b i))), (9, some (Ent.row (cQ K) 28 (SL b i))), (110, some (Ent.box 44 [T.o 8, T.o 9]))]) (fun i => b.length - i) (fun i => (i ≤ b.length) ∧ (Ok b i)) 0 ⟨Nat.zero_le _, fun k hk => absurd hk (Nat.not_lt_zero _)⟩ (sl 0 rfl (sl 2 rfl (sl 4 rfl (sl 5 rfl sn)))) (el 10 rfl (el 8 rfl (el 9 rfl (el 110 rfl en)))) ?_
  rintro i ⟨hi, hok⟩
  refine tri_sub (sl 0 rfl (sl 2 rfl (sl 4 rfl (sl 5 rfl sn)))) (el 10 rfl (el 8 rfl (el 9 rfl (el 110 rfl en)))) ?_
  refine tri_seq ?_
  refine tri_seq ?_
  refine tri_reg mixed hcx ?_ _ _
  refine mv rfl ?_
  refine mv rfl ?_
  refine ln slZss rfl ?_
  refine clt rfl rfl rfl ?_
  refine ⟨by kernel_rfl, ?_⟩
  refine nx (sl 0 rfl (sl 2 rfl (sl 4 rfl (sl 5 rfl (sl 15 rfl sn))))) (el 10 rfl (el 8 rfl (el 9 rfl (el 110 rfl en)))) ?_
  refine tri_if rfl (fun hc => ?_) (fun hc => ?_)
  · have hmi : (b.getD i (cL (cZi kb)).dflt).length = m := hm i (by omega)
    have hQi := hQ i (by omega) hok
    have hmk2 : (b.getD i (cL (cZi kb)).dflt).length * (kb + kb + 1) ≤ 17179869184 := by rw [hmi]; exact hmk
    have hMl : (ML b i).length = i := ML_len
    have hSl : (SL b i).length = i := SL_len
    refine tri_skip ?_
    refine nx (sl 0 rfl (sl 2 rfl (sl 4 rfl (sl 5 rfl sn)))) (el 10 rfl (el 8 rfl (el 9 rfl (el 110 rfl en)))) ?_
    refine tri_seq ?_
    refine tri_block ?_
    refine tri_seq ?_
    refine tri_reg mixed hcx ?_ _ _
    refine asg rfl ?_
    refine ⟨by kernel_rfl, ?_⟩
    refine nx (sl 0 rfl (sl 2 rfl (sl 4 rfl (sl 5 rfl (sl 6 rfl sn))))) (el 10 rfl (el 8 rfl (el 9 rfl (el 110 rfl en)))) ?_
    refine tri_seq ?_
    refine tri_seq ?_
    refine tri_nil 6 7 28 (cQ K) rfl (by rw [hcx]; kernel_rfl) ?_
    refine tri_reg mixed hcx ?_ _ _
    refine asg rfl ?_
    refine ⟨by kernel_rfl, ?_⟩
    refine nx (sl 0 rfl (sl 2 rfl (sl 4 rfl (sl 5 rfl (sl 6 rfl (sl 7 rfl sn)))))) (el 10 rfl (el 8 rfl (el 9 rfl (el 110 rfl (el 7 rfl en))))) ?_
    refine tri_block ?_
    refine tri_loop (ι := Nat) (fun j => [(0, T.l (cL (cZi kb)) b), (2, T.p 10 0), (4, T.p 110 0), (5, T.c (.int .i64 (i : Int))), (6, T.o 7), (7, T.c (.int .i64 (j : Int)))]) (fun j => [(10, some (Ent.box 44 [T.c (.slice none 0 0), T.c (.slice none 0 0)])), (8, some (Ent.row (cL (cQ K)) 23 (ML b i))), (9, some (Ent.row (cQ K) 28 (SL b i))), (110, some (Ent.box 44 [T.o 8, T.o 9])), (7, some (Ent.row (cQ K) 28 (mL b i j)))]) (fun j => i - j) (fun j => (j ≤ i)) 0 (Nat.zero_le _) (sl 0 rfl (sl 2 rfl (sl 4 rfl (sl 5 rfl (sl 6 rfl (sl 7 rfl sn)))))) (el 10 rfl (el 8 rfl (el 9 rfl (el 110 rfl (el 7 rfl en))))) ?_
    rintro j hj
    refine tri_sub (sl 0 rfl (sl 2 rfl (sl 4 rfl (sl 5 rfl (sl 6 rfl (sl 7 rfl sn)))))) (el 10 rfl (el 8 rfl (el 9 rfl (el 110 rfl (el 7 rfl en))))) ?_
    refine tri_seq ?_
    refine tri_seq ?_
    refine tri_reg mixed hcx ?_ _ _
    refine mv rfl ?_
    refine mv rfl ?_
    refine clt rfl rfl rfl ?_
    refine ⟨by kernel_rfl, ?_⟩
    refine nx (sl 0 rfl (sl 2 rfl (sl 4 rfl (sl 5 rfl (sl 6 rfl (sl 7 rfl (sl 20 rfl sn))))))) (el 10 rfl (el 8 rfl (el 9 rfl (el 110 rfl (el 7 rfl en))))) ?_
    refine tri_if rfl (fun hd => ?_) (fun hd => ?_)
    · have hmj : (b.getD j (cL (cZi kb)).dflt).length = m := hm j (by omega)
      have hsj : sR b j ≠ 0 := ok_ne hok (by omega)
      have hml : (mL b i j).length = j := mL_len
      have hMj : ((ML b i).getD j (cL (cQ K)).dflt).length = j := by rw [show (ML b i).getD j (cL (cQ K)).dflt = mL b j j from ML_at (by omega), mL_len]
      refine tri_skip ?_
      refine nx (sl 0 rfl (sl 2 rfl (sl 4 rfl (sl 5 rfl (sl 6 rfl (sl 7 rfl sn)))))) (el 10 rfl (el 8 rfl (el 9 rfl (el 110 rfl (el 7 rfl en))))) ?_
      refine tri_seq ?_
      refine tri_block ?_
      refine tri_seq ?_
      refine tri_reg mixed hcx ?_ _ _
      refine mv rfl ?_
      refine mv rfl ?_
      refine ix rfl rfl slZss ⟨rfl, by omega⟩ ?_
      refine lf rfl tyZs ?_
      refine mv rfl ?_
      refine mv rfl ?_
      refine ix rfl rfl slZss ⟨rfl, by omega⟩ ?_
      refine lf rfl tyZs ?_
      refine ca rfl (h := r05_Dot (by omega) (by omega) (by omega) (by omega) (by omega)) (hn := ?_)
      refine ca rfl (h := r03_Of (by omega)) (hn := ?_)
      refine nw 920 zeQ ?_
      refine st rfl rfl rfl tyQ rfl ?_
      refine ⟨by kernel_rfl, ?_⟩
      refine nx (sl 0 rfl (sl 2 rfl (sl 4 rfl (sl 5 rfl (sl 6 rfl (sl 7 rfl (sl 8 rfl sn))))))) (el 10 rfl (el 8 rfl (el 9 rfl (el 110 rfl (el 7 rfl (el 920 rfl en)))))) ?_
      refine tri_seq ?_
      refine tri_seq ?_
      refine tri_reg mixed hcx ?_ _ _
      refine asg rfl ?_
      refine ⟨by kernel_rfl, ?_⟩
      refine nx (sl 0 rfl (sl 2 rfl (sl 4 rfl (sl 5 rfl (sl 6 rfl (sl 7 rfl (sl 8 rfl (sl 9 rfl sn)))))))) (el 10 rfl (el 8 rfl (el 9 rfl (el 110 rfl (el 7 rfl (el 920 rfl en)))))) ?_
      refine tri_block ?_
      refine tri_loop (ι := Nat) (fun e => [(0, T.l (cL (cZi kb)) b), (2, T.p 10 0), (4, T.p 110 0), (5, T.c (.int .i64 (i : Int))), (6, T.o 7), (7, T.c (.int .i64 (j : Int))), (8, T.p 920 0), (9, T.c (.int .i64 (e : Int)))]) (fun e => [(10, some (Ent.box 44 [T.c (.slice none 0 0), T.c (.slice none 0 0)])), (8, some (Ent.row (cL (cQ K)) 23 (ML b i))), (9, some (Ent.row (cQ K) 28 (SL b i))), (110, some (Ent.box 44 [T.o 8, T.o 9])), (7, some (Ent.row (cQ K) 28 (mL b i j))), (920, some (Ent.box 28 [T.Q (Mr (gR b) e i j) K]))]) (fun e => j - e) (fun e => (e ≤ j)) 0 (Nat.zero_le _) (sl 0 rfl (sl 2 rfl (sl 4 rfl (sl 5 rfl (sl 6 rfl (sl 7 rfl (sl 8 rfl (sl 9 rfl sn)))))))) (el 10 rfl (el 8 rfl (el 9 rfl (el 110 rfl (el 7 rfl (ew 920 rfl (box_pack1 (q_qb rfl (hQi 0 j (by omega) (by omega)))) en)))))) ?_
      rintro e he
      refine tri_sub (sl 0 rfl (sl 2 rfl (sl 4 rfl (sl 5 rfl (sl 6 rfl (sl 7 rfl (sl 8 rfl (sl 9 rfl sn)))))))) (el 10 rfl (el 8 rfl (el 9 rfl (el 110 rfl (el 7 rfl (el 920 rfl en)))))) ?_
      refine tri_seq ?_
      refine tri_seq ?_
      refine tri_reg mixed hcx ?_ _ _
      refine mv rfl ?_
      refine mv rfl ?_
      refine clt rfl rfl rfl ?_
      refine ⟨by kernel_rfl, ?_⟩
      refine nx (sl 0 rfl (sl 2 rfl (sl 4 rfl (sl 5 rfl (sl 6 rfl (sl 7 rfl (sl 8 rfl (sl 9 rfl (sl 35 rfl sn))))))))) (el 10 rfl (el 8 rfl (el 9 rfl (el 110 rfl (el 7 rfl (el 920 rfl en)))))) ?_
      refine tri_if rfl (fun he2 => ?_) (fun he2 => ?_)
      · have hse : sR b e ≠ 0 := ok_ne hok (by omega)
        refine tri_skip ?_
        refine nx (sl 0 rfl (sl 2 rfl (sl 4 rfl (sl 5 rfl (sl 6 rfl (sl 7 rfl (sl 8 rfl (sl 9 rfl sn)))))))) (el 10 rfl (el 8 rfl (el 9 rfl (el 110 rfl (el 7 rfl (el 920 rfl en)))))) ?_
        refine tri_seq ?_
        refine tri_block ?_
        refine tri_reg mixed hcx ?_ _ _
        refine ld rfl rfl tyQ rfl ?_
        refine fa rfl fMu 0 ?_
        refine ld rfl rfl tyQss rfl ?_
        refine mv rfl ?_
        refine ixo rfl rfl rfl slQss ⟨rfl, by omega⟩ ?_
        refine lo _ rfl rfl tyQs ⟨rfl, rfl, by omega⟩ ?_
        refine mv rfl ?_
        refine ix rfl rfl slQs ⟨rfl, by omega⟩ ?_
        refine lf rfl tyQ ?_
        refine mv rfl ?_
        refine mv rfl ?_
        refine ixo rfl rfl rfl slQs ⟨rfl, by omega⟩ ?_
        refine lo _ rfl rfl tyQ ⟨rfl, rfl, by omega⟩ ?_
        refine ca rfl (h := r03_Mul (by omega) (by omega)) (hn := ?_)
        refine fa rfl fStar 1 ?_
        refine ld rfl rfl tyQs rfl ?_
        refine mv rfl ?_
        refine ixo rfl rfl rfl slQs ⟨rfl, by omega⟩ ?_
        refine lo _ rfl rfl tyQ ⟨rfl, rfl, by omega⟩ ?_
        refine ca rfl (h := r03_Mul (by omega) (by omega)) (hn := ?_)
        refine ca rfl (h := r03_Sub (by omega) (by omega)) (hn := ?_)
        refine st rfl rfl rfl tyQ rfl ?_
        refine ⟨by kernel_rfl, ?_⟩
        refine pn_blk ?_
        refine nx (sl 0 rfl (sl 2 rfl (sl 4 rfl (sl 5 rfl (sl 6 rfl (sl 7 rfl (sl 8 rfl (sl 9 rfl sn)))))))) (el 10 rfl (el 8 rfl (el 9 rfl (el 110 rfl (el 7 rfl (el 920 rfl en)))))) ?_
        refine tri_reg mixed hcx ?_ _ _
        refine mv rfl ?_
        refine ad (((e + 1 : Nat) : Int)) rfl rfl rfl (by omega) ?_
        refine asg rfl ?_
        refine ⟨by kernel_rfl, ?_⟩
        exact pn_back (e + 1) (by first | omega | (dsimp only; omega)) (by omega) (sl 0 rfl (sl 2 rfl (sl 4 rfl (sl 5 rfl (sl 6 rfl (sl 7 rfl (sl 8 rfl (sl 9 rfl sn)))))))) (el 10 rfl (el 8 rfl (el 9 rfl (el 110 rfl (el 7 rfl (ew 920 rfl (box_pack1 (q_qb (by rw [show (ML b i).getD j (cL (cQ K)).dflt = mL b j j from ML_at (by omega), show (mL b j j).getD e (cQ K).dflt = mR b j e from mL_at (by omega), show (mL b i j).getD e (cQ K).dflt = mR b i e from mL_at (by omega), show (SL b i).getD e (cQ K).dflt = sR b e from SL_at (by omega)]; exact mr_step b hse) (hQi (e + 1) j (by omega) (by omega)))) en))))))
      · refine tri_exit ?_
        repeat (first | refine pn_then ?_ | refine pn_oth (by decide) ?_)
        refine pn_ex ?_
        obtain rfl : j = e := by omega
        refine nx (sl 0 rfl (sl 2 rfl (sl 4 rfl (sl 5 rfl (sl 6 rfl (sl 7 rfl (sl 8 rfl sn))))))) (el 10 rfl (el 8 rfl (el 9 rfl (el 110 rfl (el 7 rfl (el 920 rfl en)))))) ?_
        refine tri_reg mixed hcx ?_ _ _
        refine mv rfl ?_
        refine ld rfl rfl tyQ rfl ?_
        refine fa rfl fStar 1 ?_
        refine ld rfl rfl tyQs rfl ?_
        refine mv rfl ?_
        refine ixo rfl rfl rfl slQs ⟨rfl, by omega⟩ ?_
        refine lo _ rfl rfl tyQ ⟨rfl, rfl, by omega⟩ ?_
        refine ca rfl (h := r03_Div (by rw [show (SL b i).getD j (cQ K).dflt = sR b j from SL_at (by omega)]; exact hsj) (by omega) (by omega)) (hn := ?_)
        refine bs (c := cQ K) (xs := [mR b i j]) slQs rfl ⟨q_qb (by rw [show (SL b i).getD j (cQ K).dflt = sR b j from SL_at (by omega)]; rfl) (hM i j (by omega) (by omega) hok), trivial⟩ ?_
        refine ap 1419 rfl rfl rfl slQs (by simp only [List.length_cons, List.length_nil]; omega) (by decide) ?_
        refine asg rfl ?_
        refine ⟨by kernel_rfl, ?_⟩
        refine pn_blk ?_
        refine nx (sl 0 rfl (sl 2 rfl (sl 4 rfl (sl 5 rfl (sl 6 rfl (sl 7 rfl sn)))))) (el 10 rfl (el 8 rfl (el 9 rfl (el 110 rfl (el 920 rfl (el 1419 rfl en)))))) ?_
        refine tri_reg mixed hcx ?_ _ _
        refine mv rfl ?_
        refine ad (((j + 1 : Nat) : Int)) rfl rfl rfl (by omega) ?_
        refine asg rfl ?_
        refine ⟨by kernel_rfl, ?_⟩
        refine pn_sub (sl 0 rfl (sl 2 rfl (sl 4 rfl (sl 5 rfl (sl 6 rfl (sl 7 rfl sn)))))) (el 10 rfl (el 8 rfl (el 9 rfl (el 110 rfl (el 920 rfl (el 1419 rfl en)))))) ?_
        refine pn_ren 6 7 1419 rfl rfl (by rw [hcx]; kernel_rfl) ?_
        exact pn_back (j + 1) (by first | omega | (dsimp only; omega)) (by omega) (sl 0 rfl (sl 2 rfl (sl 4 rfl (sl 5 rfl (sl 6 rfl (sl 7 rfl sn)))))) (el 10 rfl (el 8 rfl (el 9 rfl (el 110 rfl (ew 7 rfl (.of (by rw [mL_succ])) en)))))
    · refine tri_exit ?_
      repeat (first | refine pn_then ?_ | refine pn_oth (by decide) ?_)
      refine pn_ex ?_
      obtain rfl : i = j := by omega
      refine nx (sl 0 rfl (sl 2 rfl (sl 4 rfl (sl 5 rfl (sl 6 rfl sn))))) (el 10 rfl (el 8 rfl (el 9 rfl (el 110 rfl (el 7 rfl en))))) ?_
      refine tri_seq ?_
      refine tri_reg mixed hcx ?_ _ _
      refine mv rfl ?_
      refine mv rfl ?_
      refine ix rfl rfl slZss ⟨rfl, by omega⟩ ?_
      refine lf rfl tyZs ?_
      refine mv rfl ?_
      refine mv rfl ?_
      refine ix rfl rfl slZss ⟨rfl, by omega⟩ ?_
      refine lf rfl tyZs ?_
      refine ca rfl (h := r05_Dot (by omega) (by omega) (by omega) (by omega) (by omega)) (hn := ?_)
      refine ca rfl (h := r03_Of (by omega)) (hn := ?_)
      refine nw 1520 zeQ ?_
      refine st rfl rfl rfl tyQ rfl ?_
      refine ⟨by kernel_rfl, ?_⟩
      refine nx (sl 0 rfl (sl 2 rfl (sl 4 rfl (sl 5 rfl (sl 6 rfl (sl 10 rfl sn)))))) (el 10 rfl (el 8 rfl (el 9 rfl (el 110 rfl (el 7 rfl (el 1520 rfl en)))))) ?_
      refine tri_seq ?_
      refine tri_seq ?_
      refine tri_reg mixed hcx ?_ _ _
      refine asg rfl ?_
      refine ⟨by kernel_rfl, ?_⟩
      refine nx (sl 0 rfl (sl 2 rfl (sl 4 rfl (sl 5 rfl (sl 6 rfl (sl 10 rfl (sl 11 rfl sn))))))) (el 10 rfl (el 8 rfl (el 9 rfl (el 110 rfl (el 7 rfl (el 1520 rfl en)))))) ?_
      refine tri_block ?_
      refine tri_loop (ι := Nat) (fun e => [(0, T.l (cL (cZi kb)) b), (2, T.p 10 0), (4, T.p 110 0), (5, T.c (.int .i64 (i : Int))), (6, T.o 7), (10, T.p 1520 0), (11, T.c (.int .i64 (e : Int)))]) (fun e => [(10, some (Ent.box 44 [T.c (.slice none 0 0), T.c (.slice none 0 0)])), (8, some (Ent.row (cL (cQ K)) 23 (ML b i))), (9, some (Ent.row (cQ K) 28 (SL b i))), (110, some (Ent.box 44 [T.o 8, T.o 9])), (7, some (Ent.row (cQ K) 28 (mL b i i))), (1520, some (Ent.box 28 [T.Q (Mr (gR b) e i i) K]))]) (fun e => i - e) (fun e => (e ≤ i)) 0 (Nat.zero_le _) (sl 0 rfl (sl 2 rfl (sl 4 rfl (sl 5 rfl (sl 6 rfl (sl 10 rfl (sl 11 rfl sn))))))) (el 10 rfl (el 8 rfl (el 9 rfl (el 110 rfl (el 7 rfl (ew 1520 rfl (box_pack1 (q_qb rfl (hQi 0 i (by omega) (by omega)))) en)))))) ?_
      rintro e he
      refine tri_sub (sl 0 rfl (sl 2 rfl (sl 4 rfl (sl 5 rfl (sl 6 rfl (sl 10 rfl (sl 11 rfl sn))))))) (el 10 rfl (el 8 rfl (el 9 rfl (el 110 rfl (el 7 rfl (el 1520 rfl en)))))) ?_
      have hml : (mL b i i).length = i := mL_len
      refine tri_seq ?_
      refine tri_seq ?_
      refine tri_reg mixed hcx ?_ _ _
      refine mv rfl ?_
      refine mv rfl ?_
      refine clt rfl rfl rfl ?_
      refine ⟨by kernel_rfl, ?_⟩
      refine nx (sl 0 rfl (sl 2 rfl (sl 4 rfl (sl 5 rfl (sl 6 rfl (sl 10 rfl (sl 11 rfl (sl 81 rfl sn)))))))) (el 10 rfl (el 8 rfl (el 9 rfl (el 110 rfl (el 7 rfl (el 1520 rfl en)))))) ?_
      refine tri_if rfl (fun he3 => ?_) (fun he3 => ?_)
      · have hse : sR b e ≠ 0 := ok_ne hok (by omega)
        refine tri_skip ?_
        refine nx (sl 0 rfl (sl 2 rfl (sl 4 rfl (sl 5 rfl (sl 6 rfl (sl 10 rfl (sl 11 rfl sn))))))) (el 10 rfl (el 8 rfl (el 9 rfl (el 110 rfl (el 7 rfl (el 1520 rfl en)))))) ?_
        refine tri_seq ?_
        refine tri_block ?_
        refine tri_reg mixed hcx ?_ _ _
        refine ld rfl rfl tyQ rfl ?_
        refine mv rfl ?_
        refine mv rfl ?_
        refine ixo rfl rfl rfl slQs ⟨rfl, by omega⟩ ?_
        refine lo _ rfl rfl tyQ ⟨rfl, rfl, by omega⟩ ?_
        refine ca rfl (h := r05_square (by omega)) (hn := ?_)
        refine fa rfl fStar 1 ?_
        refine ld rfl rfl tyQs rfl ?_
        refine mv rfl ?_
        refine ixo rfl rfl rfl slQs ⟨rfl, by omega⟩ ?_
        refine lo _ rfl rfl tyQ ⟨rfl, rfl, by omega⟩ ?_
        refine ca rfl (h := r03_Mul (by omega) (by omega)) (hn := ?_)
        refine ca rfl (h := r03_Sub (by omega) (by omega)) (hn := ?_)
        refine st rfl rfl rfl tyQ rfl ?_
        refine ⟨by kernel_rfl, ?_⟩
        refine pn_blk ?_
        refine nx (sl 0 rfl (sl 2 rfl (sl 4 rfl (sl 5 rfl (sl 6 rfl (sl 10 rfl (sl 11 rfl sn))))))) (el 10 rfl (el 8 rfl (el 9 rfl (el 110 rfl (el 7 rfl (el 1520 rfl en)))))) ?_
        refine tri_reg mixed hcx ?_ _ _
        refine mv rfl ?_
        refine ad (((e + 1 : Nat) : Int)) rfl rfl rfl (by omega) ?_
        refine asg rfl ?_
        refine ⟨by kernel_rfl, ?_⟩
        exact pn_back (e + 1) (by first | omega | (dsimp only; omega)) (by omega) (sl 0 rfl (sl 2 rfl (sl 4 rfl (sl 5 rfl (sl 6 rfl (sl 10 rfl (sl 11 rfl sn))))))) (el 10 rfl (el 8 rfl (el 9 rfl (el 110 rfl (el 7 rfl (ew 1520 rfl (box_pack1 (q_qb (by rw [show (mL b i i).getD e (cQ K).dflt = mR b i e from mL_at (by omega), show (SL b i).getD e (cQ K).dflt = sR b e from SL_at (by omega)]; exact mr_step2 b hse) (hQi (e + 1) i (by omega) (by omega)))) en))))))
      · refine tri_exit ?_
        repeat (first | refine pn_then ?_ | refine pn_oth (by decide) ?_)
        refine pn_ex ?_
        obtain rfl : i = e := by omega
        refine nx (sl 0 rfl (sl 2 rfl (sl 4 rfl (sl 5 rfl (sl 6 rfl (sl 10 rfl sn)))))) (el 10 rfl (el 8 rfl (el 9 rfl (el 110 rfl (el 7 rfl (el 1520 rfl en)))))) ?_
        refine tri_seq ?_
        refine tri_seq ?_
        by_cases hps : 0 < sR b i
        · have hnx : Ok b (i + 1) := fun k hk => by rcases Nat.lt_or_eq_of_le (Nat.le_of_lt_succ hk) with h8 | h8; exact hok k h8; rw [h8]; exact hps
          have hsg : sg (Mr (gR b) i i i).num = 1 := sg_pos (q_pos.1 hps)
          refine tri_sub (sl 0 rfl (sl 2 rfl (sl 4 rfl (sl 5 rfl (sl 6 rfl (sl 10 rfl sn)))))) (el 10 rfl (el 8 rfl (el 9 rfl (el 110 rfl (el 7 rfl (ew 1520 rfl box_open en)))))) ?_
          refine tri_reg mixed hcx ?_ _ _
          refine fa rfl fNum 0 ?_
          refine ld rfl rfl tyZ rfl ?_
          refine ca rfl (h := r02_Sign (by omega)) (hn := ?_)
          refine cle rfl rfl (decide_eq_false (by omega)) ?_
          refine ⟨by kernel_rfl, ?_⟩
          refine nx (sl 0 rfl (sl 2 rfl (sl 4 rfl (sl 5 rfl (sl 6 rfl (sl 10 rfl (sl 100 rfl sn))))))) (el 10 rfl (el 8 rfl (el 9 rfl (el 110 rfl (el 7 rfl (el 1520 rfl en)))))) ?_
          refine tri_false rfl rfl ?_
          refine tri_skip ?_
          refine nx (sl 0 rfl (sl 2 rfl (sl 4 rfl (sl 5 rfl (sl 6 rfl (sl 10 rfl sn)))))) (el 10 rfl (el 8 rfl (el 9 rfl (el 110 rfl (el 7 rfl (el 1520 rfl en)))))) ?_
          refine tri_seq ?_
          refine tri_fz 7 rfl ?_
          refine tri_rd 6 7 rfl rfl ?_
          refine tri_reg mixed hcx ?_ _ _
          refine fa rfl fMu 0 ?_
          refine ld rfl rfl tyQss rfl ?_
          refine mv rfl ?_
          refine bs (c := cL (cQ K)) (xs := [mL b i i]) slQss rfl ⟨.refl _, trivial⟩ ?_
          refine ap 2214 rfl rfl rfl slQss (by simp only [List.length_cons, List.length_nil]; omega) (by decide) ?_
          refine fa rfl fMu 0 ?_
          refine st rfl rfl rfl tyQss rfl ?_
          refine ⟨by kernel_rfl, ?_⟩
          refine nx (sl 0 rfl (sl 2 rfl (sl 4 rfl (sl 5 rfl (sl 10 rfl sn))))) (el 10 rfl (el 9 rfl (el 110 rfl (el 1520 rfl (el 2214 rfl en))))) ?_
          refine tri_reg mixed hcx ?_ _ _
          refine fa rfl fStar 1 ?_
          refine ld rfl rfl tyQs rfl ?_
          refine ld rfl rfl tyQ rfl ?_
          refine bs (c := cQ K) (xs := [sR b i]) slQs rfl ⟨.refl _, trivial⟩ ?_
          refine ap 2314 rfl rfl rfl slQs (by simp only [List.length_cons, List.length_nil]; omega) (by decide) ?_
          refine fa rfl fStar 1 ?_
          refine st rfl rfl rfl tyQs rfl ?_
          refine ⟨by kernel_rfl, ?_⟩
          refine pn_blk ?_
          refine nx (sl 0 rfl (sl 2 rfl (sl 4 rfl (sl 5 rfl sn)))) (el 10 rfl (el 110 rfl (el 1520 rfl (el 2214 rfl (el 2314 rfl en))))) ?_
          refine tri_reg mixed hcx ?_ _ _
          refine mv rfl ?_
          refine ad (((i + 1 : Nat) : Int)) rfl rfl rfl (by omega) ?_
          refine asg rfl ?_
          refine ⟨by kernel_rfl, ?_⟩
          refine pn_sub (sl 0 rfl (sl 2 rfl (sl 4 rfl (sl 5 rfl sn)))) (el 10 rfl (el 110 rfl (el 2214 rfl (el 2314 rfl en)))) ?_
          refine pn_renb (bl := [T.o 2214, T.o 2314]) (bl' := [T.o 8, T.o 2314]) 110 8 2214 rfl rfl ⟨.inr ⟨rfl, rfl⟩, .inl ⟨rfl, by show 8 ∉ [2314]; decide⟩, trivial⟩ (by rw [hcx]; kernel_rfl) rfl ?_
          refine pn_renb (bl := [T.o 8, T.o 2314]) (bl' := [T.o 8, T.o 9]) 110 9 2314 rfl rfl ⟨.inl ⟨rfl, by show 9 ∉ [8]; decide⟩, .inr ⟨rfl, rfl⟩, trivial⟩ (by rw [hcx]; kernel_rfl) rfl ?_
          exact pn_back (i + 1) (by first | omega | (dsimp only; omega)) ⟨by omega, hnx⟩ (sl 0 rfl (sl 2 rfl (sl 4 rfl (sl 5 rfl sn)))) (el 10 rfl (ew 8 rfl (.of (by rw [ML_succ])) (ew 9 rfl (.of (by rw [SL_succ])) (el 110 rfl en))))
        · have hsg : sg (Mr (gR b) i i i).num ≤ 0 := sg_le.2 (Int.not_lt.1 (mt q_pos.2 hps))
          refine tri_sub (sl 0 rfl (sl 2 rfl (sl 4 rfl (sl 5 rfl (sl 6 rfl (sl 10 rfl sn)))))) (el 10 rfl (el 8 rfl (el 9 rfl (el 110 rfl (el 7 rfl (ew 1520 rfl box_open en)))))) ?_
          refine tri_reg mixed hcx ?_ _ _
          refine fa rfl fNum 0 ?_
          refine ld rfl rfl tyZ rfl ?_
          refine ca rfl (h := r02_Sign (by omega)) (hn := ?_)
          refine cle rfl rfl (decide_eq_true (by omega)) ?_
          refine ⟨by kernel_rfl, ?_⟩
          refine nx (sl 0 rfl (sl 2 rfl (sl 4 rfl (sl 5 rfl (sl 6 rfl (sl 10 rfl (sl 100 rfl sn))))))) (el 10 rfl (el 8 rfl (el 9 rfl (el 110 rfl (el 7 rfl (el 1520 rfl en)))))) ?_
          refine tri_true rfl rfl ?_
          refine tri_seq ?_
          refine tri_fz 8 rfl ?_
          refine tri_rdb (bl := [T.o 8, T.o 9]) (bl' := [T.l (cL (cQ K)) (ML b i), T.o 9]) 110 8 rfl rfl ⟨.inr ⟨rfl, rfl⟩, .inl rfl, trivial⟩ ?_
          refine tri_fz 9 rfl ?_
          refine tri_rdb (bl := [T.l (cL (cQ K)) (ML b i), T.o 9]) (bl' := [T.l (cL (cQ K)) (ML b i), T.l (cQ K) (SL b i)]) 110 9 rfl rfl ⟨.inl rfl, .inr ⟨rfl, rfl⟩, trivial⟩ ?_
          refine tri_reg mixed hcx ?_ _ _
          refine ld rfl rfl tyR rfl ?_
          refine st rfl rfl rfl tyR rfl ?_
          refine asg rfl ?_
          refine ⟨by kernel_rfl, ?_⟩
          refine nx (sl 2 rfl (sl 3 rfl sn)) (el 10 rfl (el 110 rfl (el 7 rfl (el 1520 rfl en)))) ?_
          refine tri_ret ?_
          repeat (first | refine pn_thenr ?_ | refine pn_blkr ?_)
          exact ret2 hcx rfl (rv_cell (c' := cx) (n := 0) rfl rfl tyR rfl) (rv_tmp rfl) (tup_le ⟨st_le (l := [T.l (cL (cQ K)) (ML b i), T.l (cQ K) (SL b i)]) (l' := [T.any, T.any]) ⟨any_l, any_l, trivial⟩, .refl _, trivial⟩) en
  · refine tri_exit ?_
    repeat (first | refine pn_then ?_ | refine pn_oth (by decide) ?_)
    refine pn_ex ?_
    exfalso
    exact hno ((show i = b.length by omega) ▸ hok)
end Go.Proofs.YtmfgnbchehnpjaaGreat.V
/- The data of rows: how large, and that the squared length of a sum of rows is what the data say. -/
set_option linter.unusedVariables false
namespace Go.Proofs.YtmfgnbchehnpjaaGreat.V
open Mt Nml
theorem RI.row {b : List (List Int)} {D : List Int} {L : List (List Int)} {S i : Nat} (hB : BI S i D L) (hS : ∀ j, j ≤ i → zl (gU b i j) ≤ S) : ∀ j, j ≤ i + 1 → RI S j (rowU b D L i j)
  | 0, _ => RI.zero S
  | j + 1, hj => by
    have h := RI.row hB hS j (by omega)
    unfold rowU
    exact h.snoc (red_bd hB h (by omega) (hS j (by omega)) (Nat.le_refl _))
theorem bld_BI {b : List (List Int)} {S : Nat} (hS : ∀ i j, i < b.length → j ≤ i → zl (gU b i j) ≤ S) : ∀ {i : Nat} {D : List Int} {L : List (List Int)}, i ≤ b.length → bld b i = some (D, L) → BI S i D L
  | 0, D, L, _, h => by cases h; exact BI.zero S
  | i + 1, D, L, hi, h => by
    obtain ⟨D', L', h1, h2, h3⟩ := bld_prev h
    cases h3
    have hB := bld_BI hS (by omega) h1
    exact hB.step (RI.row hB (fun j hj => hS i j (by omega) hj) (i + 1) (Nat.le_refl _)) h2
theorem Ok.mono {b : List (List Int)} {m n : Nat} (h : Ok b n) (hm : m ≤ n) : Ok b m := fun k hk => h k (by omega)
/-- A numerator, and its size. -/
theorem num_bd {b : List (List Int)} {S : Nat} (hS : ∀ i j, i < b.length → j ≤ i → zl (gU b i j) ≤ S) {i j k : Nat} (hok : Ok b i) (hi : i < b.length) (hk : k ≤ j) (hj : j ≤ i) : ∃ z : Int, (z : Rat) = pb b k * Mr (gR b) k i j ∧ zl z ≤ bd S k := by
  obtain ⟨D, L, hD⟩ := bld_of_ok hok
  have hB := bld_BI hS (by omega) hD
  have hI := bld_DI hD
  have hR := RI.row hB (fun j hj => hS i j hi hj) j (by omega)
  exact ⟨_, red_exact hI hj (fun k hk => row_exact hI j (by omega) k hk) k hk, red_bd hB hR hj (hS i j hi hj) hk⟩
theorem den_bd {b : List (List Int)} {S : Nat} (hS : ∀ i j, i < b.length → j ≤ i → zl (gU b i j) ≤ S) (h1 : 1 ≤ S) {k : Nat} (hok : Ok b k) (hi : k ≤ b.length) : ∃ z : Int, (z : Rat) = pb b k ∧ zl z ≤ bd S k ∧ z ≠ 0 := by
  have hp := rat_pos_ne (pb_pos hok k (Nat.le_refl _))
  have nz : ∀ z : Int, (z : Rat) = pb b k → z ≠ 0 := fun z e h => hp (by rw [← e, h]; rfl)
  cases k with
  | zero => exact ⟨1, rfl, by rw [bd_zero]; exact Nat.le_trans zl_one h1, by decide⟩
  | succ k =>
    obtain ⟨z, h2, h3⟩ := num_bd hS (hok.mono (Nat.le_succ k)) (show k < b.length by omega) (Nat.le_refl k) (Nat.le_refl k)
    rw [← pb_succ] at h2
    exact ⟨z, h2, Nat.le_trans h3 (bd_mono (Nat.le_succ k)), nz z h2⟩
theorem mr_QB {b : List (List Int)} {S : Nat} (hS : ∀ i j, i < b.length → j ≤ i → zl (gU b i j) ≤ S) (h1 : 1 ≤ S) {i j k : Nat} (hok : Ok b i) (hi : i < b.length) (hk : k ≤ j) (hj : j ≤ i) : QB (Mr (gR b) k i j) (bd S k) := by
  obtain ⟨z, e1, b1⟩ := num_bd hS hok hi hk hj
  obtain ⟨d, e2, b2, n2⟩ := den_bd hS h1 (hok.mono (show k ≤ i by omega)) (by omega)
  have e : Mr (gR b) k i j = (z : Rat) / (d : Rat) := by
    have h0 := rat_ne n2
    rw [e2] at h0
    rw [e1, e2, Rat.mul_comm, Rat.mul_div_cancel h0]
  rw [e]
  have := qb_div b1 b2 n2
  rwa [Nat.max_self] at this
theorem mR_QB {b : List (List Int)} {S : Nat} (hS : ∀ i j, i < b.length → j ≤ i → zl (gU b i j) ≤ S) {i j : Nat} (hok : Ok b i) (hi : i < b.length) (hj : j < i) : QB (mR b i j) (bd S j) := by
  obtain ⟨z, e1, b1⟩ := num_bd hS hok hi (Nat.le_refl j) (by omega)
  obtain ⟨d, e2, b2⟩ := num_bd hS (hok.mono (show j ≤ i by omega)) (show j < b.length by omega) (Nat.le_refl j) (Nat.le_refl j)
  have hp := rat_pos_ne (pb_pos (hok.mono (show j ≤ i by omega)) j (Nat.le_refl _))
  have hm := ok_ne hok hj
  have n2 : d ≠ 0 := fun h => by
    rw [h] at e2
    rcases Rat.mul_eq_zero.1 e2.symm with h | h
    · exact hp h
    · exact hm h
  have e : mR b i j = (z : Rat) / (d : Rat) := by
    unfold mR
    rw [e1, e2]
    generalize Mr (gR b) j j j = m at hm
    generalize Mr (gR b) j i j = x
    generalize pb b j = p at hp
    grind
  rw [e]
  have := qb_div b1 b2 n2
  rwa [Nat.max_self] at this
/-- Sums of fractions. -/
def sumN (f : Nat → Rat) : Nat → Rat
  | 0 => 0
  | n + 1 => sumN f n + f n
theorem sum_congr {f g : Nat → Rat} : ∀ {n : Nat}, (∀ i, i < n → f i = g i) → sumN f n = sumN g n
  | 0, _ => rfl
  | n + 1, h => by show sumN f n + f n = sumN g n + g n; rw [sum_congr fun i hi => h i (by omega), h n (by omega)]
theorem sum_add (f g : Nat → Rat) : ∀ n, sumN (fun i => f i + g i) n = sumN f n + sumN g n
  | 0 => by show (0 : Rat) = 0 + 0; grind
  | n + 1 => by show sumN _ n + (f n + g n) = sumN f n + f n + (sumN g n + g n); rw [sum_add f g n]; grind
theorem sum_mul (c : Rat) (f : Nat → Rat) : ∀ n, sumN (fun i => c * f i) n = c * sumN f n
  | 0 => by show (0 : Rat) = c * 0; grind
  | n + 1 => by show sumN _ n + c * f n = c * (sumN f n + f n); rw [sum_mul c f n]; grind
theorem sum_zero {f : Nat → Rat} {n : Nat} (h : ∀ i, i < n → f i = 0) : sumN f n = 0 := by
  rw [sum_congr (g := fun _ => 0 * 0) fun i hi => by rw [h i hi]; grind]
  rw [sum_mul]; grind
theorem sum_swap (f : Nat → Nat → Rat) (m : Nat) : ∀ n, sumN (fun i => sumN (f i) m) n = sumN (fun j => sumN (fun i => f i j) n) m
  | 0 => by show (0 : Rat) = sumN (fun _ => 0) m; exact (sum_zero fun _ _ => rfl).symm
  | n + 1 => by
    show sumN _ n + sumN (f n) m = sumN (fun j => sumN (fun i => f i j) n + f n j) m
    rw [sum_swap f m n, sum_add]
/-- What elimination has done away with. -/
theorem mr_zero {b : List (List Int)} {n : Nat} (h : Ok b n) : ∀ k, k ≤ n → ∀ j, j < k → ∀ c, Mr (gR b) k j c = 0
  | 0, _, j, hj, c => absurd hj (Nat.not_lt_zero _)
  | k + 1, hk, j, hj, c => by
    show Mr (gR b) k j c + -(Mr (gR b) k j k / Mr (gR b) k k k) * Mr (gR b) k k c = 0
    have hm := ok_ne h (show k < n by omega)
    rcases Nat.lt_or_eq_of_le (Nat.le_of_lt_succ hj) with h1 | h1
    · rw [mr_zero h k (by omega) j h1 c, mr_zero h k (by omega) j h1 k]
      rw [Rat.div_def]; grind
    · subst h1
      generalize Mr (gR b) j j j = m at hm
      generalize Mr (gR b) j j c = x
      grind
theorem sum_split (f : Nat → Rat) (m : Nat) : ∀ d, sumN f (m + d) = sumN f m + sumN (fun i => f (m + i)) d
  | 0 => by show _ = _ + (0 : Rat); rw [Nat.add_zero]; grind
  | d + 1 => by show sumN f (m + d) + f (m + d) = _ + (sumN _ d + _); rw [sum_split f m d]; grind
/-- The data's numbers as fractions. -/
theorem DI.star {b : List (List Int)} {n : Nat} {D : List Int} {L : List (List Int)} (h : DI b n D L) {i : Nat} (hi : i < n) : ((D.getD (i + 1) 0 : Int) : Rat) / ((D.getD i 0 : Int) : Rat) = sR b i := by
  have hp := rat_pos_ne (pb_pos h.ok i (by omega))
  rw [h.d (i + 1) (by omega), h.d i (by omega), pb_succ]
  show pb b i * sR b i / pb b i = _
  generalize sR b i = s
  generalize pb b i = p at hp
  grind
theorem DI.mu {b : List (List Int)} {n : Nat} {D : List Int} {L : List (List Int)} (h : DI b n D L) {i j : Nat} (hi : i < n) (hj : j < i) : (((L.getD i []).getD j 0 : Int) : Rat) / ((D.getD (j + 1) 0 : Int) : Rat) = mR b i j := by
  have hp := rat_pos_ne (pb_pos h.ok j (by omega))
  have hm := ok_ne h.ok (show j < n by omega)
  rw [h.d (j + 1) (by omega), h.l i j hi hj, pb_succ]
  unfold mR
  generalize Mr (gR b) j j j = m at hm
  generalize Mr (gR b) j i j = x
  generalize pb b j = p at hp
  grind
/-! ### sums of rows -/
theorem DI.good {b : List (List Int)} {n : Nat} {D : List Int} {L : List (List Int)} (h : DI b n D L) (hn : 0 < n) : GoodP D L := by
  have hpos : ∀ k, k ≤ n → 0 < D.getD k 0 := fun k hk => by
    have := pb_pos h.ok k hk
    rw [← h.d k hk] at this
    exact Rat.intCast_pos.1 this
  refine ⟨by rw [h.lL]; exact hn, by rw [h.lD, h.lL], ?_, fun i hi => ?_⟩
  · have := h.d 0 (Nat.zero_le _)
    exact Rat.intCast_inj.1 (this.trans rfl)
  · rw [h.lL] at hi
    exact ⟨h.lr i hi, hpos (i + 1) (by omega)⟩
theorem bld_none {b : List (List Int)} {n : Nat} (h : bld b n = none) : ¬ Ok b n := fun hok => by
  obtain ⟨D, L, e⟩ := bld_of_ok hok
  rw [h] at e; cases e
end Go.Proofs.YtmfgnbchehnpjaaGreat.V
