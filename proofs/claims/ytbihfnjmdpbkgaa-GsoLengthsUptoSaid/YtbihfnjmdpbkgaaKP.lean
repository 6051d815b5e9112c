/- What is said of rows, but for dependence. -/
import Derived.Test.YtbihfnjmdpbkgaaKB
set_option linter.unusedVariables false
set_option linter.unusedSimpArgs false
set_option maxRecDepth 100000
namespace Go.Proofs.Ytbihfnjmdpbkgaa.V
open Go.RowKit Mt Nml
/-- A truth value, whichever. -/
def T.tb : T := T.ex 1 false (fun _ : Bool => True) (fun s => T.c (.bool s)) (fun _ => ⟨rfl, rfl, rfl⟩)
theorem tb_of (s : Bool) : (T.c (.bool s)).le T.tb := fun β u v h => ⟨s, trivial, h⟩
theorem iv_abs {s : Bool} {xs : List Int} {z : Int} (h : Lim xs) (hz : z = iv s (val xs)) : val xs = ((z.natAbs : Nat) : Int) := by
  have := val_nonneg h
  subst hz
  unfold iv
  split <;> omega
theorem zi_parts {z : Int} {k : Nat} : (T.Zi z k).le (T.st [T.tb, T.L z.natAbs k]) := fun β u v ⟨i, ⟨h1, h2, h3⟩, cs, e, hc⟩ => ⟨cs, e, cells_le (l := [T.c (.bool i.1), T.l cU i.2]) hc ⟨tb_of i.1, l_L h1 (iv_abs h1 h2) h3, trivial⟩ rfl⟩
instance (z : Int) (k : Nat) : Sp (T.Zi z k) [T.tb, T.L z.natAbs k] := ⟨zi_parts⟩
instance (z : Int) (k : Nat) : Sp ((cZi k).X z) [T.tb, T.L z.natAbs k] := ⟨zi_parts⟩
/-- Rows that are too large: q, are the bits asked? -/
def BigB (b : List (List Int)) (q : Bool) : Prop := 12 < b.length ∨ (q = true ∧ 256 < matB b b.length) ∨ ∃ i, i < b.length ∧ 12 < (b.getD i []).length
/-- Rows of unlike lengths. -/
def BadB (b : List (List Int)) : Prop := ∃ i, i < b.length ∧ (b.getD i []).length ≠ (b.getD 0 []).length
/-- What is said of rows, but for dependence. -/
structure ShR (b : List (List Int)) (q : Bool) (r : Int) : Prop where
  big : BigB b q → r = 40
  nil : ¬ BigB b q → b.length = 0 → r = 41
  bad : ¬ BigB b q → b.length ≠ 0 → BadB b → r = 8
  ok : ¬ BigB b q → b.length ≠ 0 → ¬ BadB b → r = 0
theorem ShR.ex (b : List (List Int)) (q : Bool) : ∃ r, ShR b q r := by
  by_cases h1 : BigB b q
  · exact ⟨40, fun _ => rfl, fun h => absurd h1 h, fun h => absurd h1 h, fun h => absurd h1 h⟩
  · by_cases h2 : b.length = 0
    · exact ⟨41, fun h => absurd h h1, fun _ _ => rfl, fun _ h => absurd h2 h, fun _ h => absurd h2 h⟩
    · by_cases h3 : BadB b
      · exact ⟨8, fun h => absurd h h1, fun _ h => absurd h h2, fun _ _ _ => rfl, fun _ _ h => absurd h3 h⟩
      · exact ⟨0, fun h => absurd h h1, fun _ h => absurd h h2, fun _ _ h => absurd h h3, fun _ _ _ => rfl⟩
theorem mxB_le {l : List Int} {a N : Nat} (ha : a ≤ N) : ∀ {n : Nat}, (∀ k, k < n → nbits (l.getD k 0).natAbs ≤ N) → mxB l a n ≤ N
  | 0, _ => ha
  | n + 1, h => Nat.max_le.2 ⟨mxB_le ha fun k hk => h k (by omega), h n (by omega)⟩
theorem mxB_ge {l : List Int} {a : Nat} : ∀ {n : Nat}, a ≤ mxB l a n
  | 0 => Nat.le_refl _
  | n + 1 => Nat.le_trans mxB_ge (Nat.le_max_left _ _)
theorem mxB_at {l : List Int} {a : Nat} : ∀ {n k : Nat}, k < n → nbits (l.getD k 0).natAbs ≤ mxB l a n
  | n + 1, k, h => by
    rcases Nat.lt_or_eq_of_le (Nat.le_of_lt_succ h) with h1 | h1
    · exact Nat.le_trans (mxB_at h1) (Nat.le_max_left _ _)
    · subst h1; exact Nat.le_max_right _ _
theorem matB_le {b : List (List Int)} {N : Nat} : ∀ {n : Nat}, (∀ i, i < n → ∀ k, k < (b.getD i []).length → nbits ((b.getD i []).getD k 0).natAbs ≤ N) → matB b n ≤ N
  | 0, _ => Nat.zero_le _
  | n + 1, h => mxB_le (matB_le fun i hi => h i (by omega)) (h n (by omega))
theorem matB_at {b : List (List Int)} : ∀ {n i k : Nat}, i < n → k < (b.getD i []).length → nbits ((b.getD i []).getD k 0).natAbs ≤ matB b n
  | n + 1, i, k, hi, hk => by
    rcases Nat.lt_or_eq_of_le (Nat.le_of_lt_succ hi) with h1 | h1
    · exact Nat.le_trans (matB_at h1 hk) mxB_ge
    · subst h1; exact mxB_at hk
/-- Is it so far? -/
def BigU (b : List (List Int)) (q : Bool) (i : Nat) : Prop := 12 < b.length ∨ (q = true ∧ 256 < matB b b.length) ∨ ∃ j, j < i ∧ 12 < (b.getD j []).length
theorem bigU_zero {b : List (List Int)} {q p : Bool} (h : p = true ↔ (12 < b.length ∨ (q = true ∧ 256 < matB b b.length))) : p = true ↔ BigU b q 0 := by
  rw [h]
  refine ⟨fun h => ?_, fun h => ?_⟩
  · rcases h with h | h
    · exact .inl h
    · exact .inr (.inl h)
  · rcases h with h | h | ⟨j, hj, _⟩
    · exact .inl h
    · exact .inr h
    · omega
theorem bigU_t {b : List (List Int)} {q : Bool} {i : Nat} (h : BigU b q i) : (true = true) ↔ BigU b q (i + 1) := ⟨fun _ => by
  rcases h with h | h | ⟨j, hj, h⟩
  · exact .inl h
  · exact .inr (.inl h)
  · exact .inr (.inr ⟨j, by omega, h⟩), fun _ => rfl⟩
theorem bigU_n {b : List (List Int)} {q : Bool} {i : Nat} (h : 12 < (b.getD i []).length) : (true = true) ↔ BigU b q (i + 1) := ⟨fun _ => .inr (.inr ⟨i, by omega, h⟩), fun _ => rfl⟩
theorem bigU_f {b : List (List Int)} {q : Bool} {i : Nat} (h : ¬ BigU b q i) (h2 : ¬ 12 < (b.getD i []).length) : (false = true) ↔ BigU b q (i + 1) := ⟨fun h => (by cases h), fun k0 => absurd k0 (by
  rintro (k | k | ⟨j, hj, k⟩)
  · exact h (.inl k)
  · exact h (.inr (.inl k))
  · rcases Nat.lt_or_eq_of_le (Nat.le_of_lt_succ hj) with h1 | h1
    · exact h (.inr (.inr ⟨j, h1, k⟩))
    · rw [h1] at k; exact h2 k)⟩
theorem bad_of {b : List (List Int)} (h : BadB b) : ∃ i, i < b.length ∧ (b.getD i []).length ≠ (b.getD 0 []).length ∧ ∀ j, j < i → (b.getD j []).length = (b.getD 0 []).length := by
  obtain ⟨i, ⟨h1, h2⟩, h3⟩ := least (fun i => i < b.length ∧ (b.getD i []).length ≠ (b.getD 0 []).length) h
  refine ⟨i, h1, h2, fun j hj => ?_⟩
  by_cases e : (b.getD j []).length = (b.getD 0 []).length
  · exact e
  · have := h3 j ⟨by omega, e⟩; omega

theorem mat_Shape_bad {b : List (List Int)} {k : Nat} (h0 : 0 < b.length) (hb : b.length ≤ 12) (h : BadB b) (hr : ∀ i, i < b.length → (b.getD i []).length ≤ 12) : Fn Try.prog 166 [T.l (cL (cZi k)) b] [] [] [] (T.tup [T.c (.int .i64 0), T.c (.int .i64 0), T.c (.int .i64 8)]) := by
  refine fn_of Try.func166 rfl (by show 1 ≤ 30; decide) fun cx hcx => ?_
  refine tri_sub (sl 0 rfl sn) en ?_
  obtain ⟨w, hw1, hw2, hw3⟩ := bad_of h
  have hm0 : (b.getD 0 (cL (cZi k)).dflt).length ≤ 12 := hr 0 h0
  refine tri_seq ?_
  refine tri_reg mixed hcx ?_ _ _
  refine asg rfl ?_
  refine asg rfl ?_
  refine asg rfl ?_
  refine ⟨by kernel_rfl, ?_⟩
  refine nx (sl 0 rfl sn) en ?_
  refine tri_seq ?_
  refine tri_seq ?_
  refine tri_reg mixed hcx ?_ _ _
  refine mv rfl ?_
  refine ln slZss rfl ?_
  refine ceq rfl rfl (decide_eq_false (by omega)) ?_
  refine ⟨by kernel_rfl, ?_⟩
  refine nx (sl 0 rfl (sl 9 rfl sn)) en ?_
  refine tri_false rfl rfl ?_
  refine tri_skip ?_
  refine nx (sl 0 rfl sn) en ?_
  refine tri_seq ?_
  refine tri_seq ?_
  refine tri_reg mixed hcx ?_ _ _
  refine mv rfl ?_
  refine ln slZss rfl ?_
  refine mv rfl ?_
  refine ⟨by kernel_rfl, ?_⟩
  refine nx (sl 0 rfl (sl 10 rfl (sl 11 rfl (sl 12 rfl sn)))) en ?_
  refine tri_block ?_
  refine tri_loop (ι := Nat) (fun i => [(0, T.l (cL (cZi k)) b), (10, T.l (cL (cZi k)) b), (11, T.c (.int .i64 (b.length : Int))), (12, T.c (.int .i64 (i : Int)))]) (fun i => []) (fun i => b.length - i) (fun i => (i ≤ w)) 0 (Nat.zero_le _) (sl 0 rfl (sl 10 rfl (sl 11 rfl (sl 12 rfl sn)))) en ?_
  rintro i hi
  refine tri_sub (sl 0 rfl (sl 10 rfl (sl 11 rfl (sl 12 rfl sn)))) en ?_
  refine tri_seq ?_
  refine tri_reg mixed hcx ?_ _ _
  refine clt rfl rfl rfl ?_
  refine ⟨by kernel_rfl, ?_⟩
  refine nx (sl 0 rfl (sl 10 rfl (sl 11 rfl (sl 12 rfl (sl 13 rfl sn))))) en ?_
  refine tri_seq ?_
  refine tri_if rfl (fun hc => ?_) (fun hc => ?_)
  · have hmi : (b.getD i (cL (cZi k)).dflt).length ≤ 12 := hr i (by omega)
    refine tri_skip ?_
    refine nx (sl 0 rfl (sl 10 rfl (sl 11 rfl (sl 12 rfl sn)))) en ?_
    refine tri_seq ?_
    refine tri_block ?_
    refine tri_seq ?_
    refine tri_reg mixed hcx ?_ _ _
    refine ix rfl rfl slZss ⟨rfl, by omega⟩ ?_
    refine lf rfl tyZs ?_
    refine asg rfl ?_
    refine ⟨by kernel_rfl, ?_⟩
    refine nx (sl 0 rfl (sl 6 rfl (sl 10 rfl (sl 11 rfl (sl 12 rfl sn))))) en ?_
    refine tri_seq ?_
    rcases Nat.lt_or_eq_of_le hi with h9 | h9
    · have hme : (b.getD i (cL (cZi k)).dflt).length = (b.getD 0 (cL (cZi k)).dflt).length := hw3 i h9
      refine tri_reg mixed hcx ?_ _ _
      refine mv rfl ?_
      refine ln slZs rfl ?_
      refine mv rfl ?_
      refine ix rfl rfl slZss ⟨(rfl : _ = ((0 : Nat) : Int)), by omega⟩ ?_
      refine lf rfl tyZs ?_
      refine ln slZs rfl ?_
      refine cne rfl rfl (decide_eq_false (by omega)) ?_
      refine ⟨by kernel_rfl, ?_⟩
      refine nx (sl 0 rfl (sl 10 rfl (sl 11 rfl (sl 12 rfl (sl 22 rfl sn))))) en ?_
      refine tri_false rfl rfl ?_
      refine tri_skip ?_
      refine pn_blk ?_
      refine nx (sl 0 rfl (sl 10 rfl (sl 11 rfl (sl 12 rfl sn)))) en ?_
      refine tri_reg mixed hcx ?_ _ _
      refine ad (((i + 1 : Nat) : Int)) rfl rfl rfl (by omega) ?_
      refine mv rfl ?_
      refine ⟨by kernel_rfl, ?_⟩
      exact pn_back (i + 1) (by first | omega | (dsimp only; omega)) (by omega) (sl 0 rfl (sl 10 rfl (sl 11 rfl (sl 12 rfl sn)))) en
    · subst h9
      have hmn : (b.getD i (cL (cZi k)).dflt).length ≠ (b.getD 0 (cL (cZi k)).dflt).length := hw2
      refine tri_reg mixed hcx ?_ _ _
      refine mv rfl ?_
      refine ln slZs rfl ?_
      refine mv rfl ?_
      refine ix rfl rfl slZss ⟨(rfl : _ = ((0 : Nat) : Int)), by omega⟩ ?_
      refine lf rfl tyZs ?_
      refine ln slZs rfl ?_
      refine cne rfl rfl (decide_eq_true (by omega)) ?_
      refine ⟨by kernel_rfl, ?_⟩
      refine nx (sl 0 rfl (sl 10 rfl (sl 11 rfl (sl 12 rfl (sl 22 rfl sn))))) en ?_
      refine tri_true rfl rfl ?_
      refine tri_seq ?_
      refine tri_reg mixed hcx ?_ _ _
      refine asg rfl ?_
      refine asg rfl ?_
      refine asg rfl ?_
      refine ⟨by kernel_rfl, ?_⟩
      refine nx (sl 2 rfl (sl 3 rfl (sl 4 rfl sn))) en ?_
      refine tri_ret ?_
      repeat (first | refine pn_thenr ?_ | refine pn_blkr ?_)
      exact ret3 hcx rfl (rv_tmp rfl) (rv_tmp rfl) (rv_tmp rfl) (.refl _) en
  · refine tri_exit ?_
    repeat (first | refine pn_then ?_ | refine pn_oth (by decide) ?_)
    refine pn_ex ?_
    exfalso
    omega

theorem g_shaped_t {b : List (List Int)} {k : Nat} {r : Int} (hk : k ≤ 1048576) (hbl : b.length ≤ 1048576) (hrr : ∀ i, i < b.length → (b.getD i []).length ≤ 1048576) (hR : ShR b true r) : Fn Try.prog 131 [T.l (cL (cZi k)) b, T.c (.bool true)] [] [] [] (T.c (.int .i64 r)) := by
  refine fn_of Try.func131 rfl (by show 2 ≤ 46; decide) fun cx hcx => ?_
  refine tri_sub (sl 0 rfl (sl 1 rfl sn)) en ?_
  refine tri_seq ?_
  refine tri_reg mixed hcx ?_ _ _
  refine asg rfl ?_
  refine ⟨by kernel_rfl, ?_⟩
  refine nx (sl 0 rfl (sl 1 rfl sn)) en ?_
  refine tri_seq ?_
  rcases Nat.lt_or_ge 12 b.length with h1 | h1; rotate_left; rcases Nat.lt_or_ge 256 (matB b b.length) with h2 | h2; rotate_left; rotate_left
  · refine tri_reg mixed hcx ?_ _ _
    refine mv rfl ?_
    refine ln slZss rfl ?_
    refine cgt rfl rfl (decide_eq_true (by omega)) ?_
    refine mv rfl ?_
    refine j_off rfl rfl rfl rfl ?_
    refine j_off rfl rfl rfl rfl ?_
    refine j_ofu rfl rfl rfl ?_
    refine j_ofu rfl rfl rfl ?_
    refine j_ofu rfl rfl rfl ?_
    refine j_off rfl rfl rfl rfl ?_
    refine pk rfl rfl ?_
    refine asg rfl ?_
    refine ⟨by kernel_rfl, ?_⟩
    refine nx (sl 0 rfl (sl 5 rfl sn)) en ?_
    refine tri_seq ?_
    refine tri_seq ?_
    refine tri_reg mixed hcx ?_ _ _
    refine mv rfl ?_
    refine ln slZss rfl ?_
    refine mv rfl ?_
    refine ⟨by kernel_rfl, ?_⟩
    refine nx (sl 0 rfl (sl 5 rfl (sl 22 rfl (sl 23 rfl (sl 24 rfl sn))))) en ?_
    refine tri_block ?_
    refine tri_loop (ι := Nat × Bool) (fun (i, p) => [(0, T.l (cL (cZi k)) b), (5, T.c (.bool p)), (22, T.l (cL (cZi k)) b), (23, T.c (.int .i64 (b.length : Int))), (24, T.c (.int .i64 (i : Int)))]) (fun (i, p) => []) (fun (i, p) => b.length - i) (fun (i, p) => (i ≤ b.length) ∧ (p = true ↔ BigU b true i)) (0, true) ⟨Nat.zero_le _, bigU_zero ⟨fun _ => .inl h1, fun _ => rfl⟩⟩ (sl 0 rfl (sl 5 rfl (sl 22 rfl (sl 23 rfl (sl 24 rfl sn))))) en ?_
    rintro ⟨i, p⟩ ⟨hi, hp⟩
    refine tri_sub (sl 0 rfl (sl 5 rfl (sl 22 rfl (sl 23 rfl (sl 24 rfl sn))))) en ?_
    refine tri_seq ?_
    refine tri_reg mixed hcx ?_ _ _
    refine clt rfl rfl rfl ?_
    refine ⟨by kernel_rfl, ?_⟩
    refine nx (sl 0 rfl (sl 5 rfl (sl 22 rfl (sl 23 rfl (sl 24 rfl (sl 25 rfl sn)))))) en ?_
    refine tri_seq ?_
    refine tri_if rfl (fun hc => ?_) (fun hc => ?_)
    · have hmi : (b.getD i (cL (cZi k)).dflt).length ≤ 1048576 := hrr i (by omega)
      refine tri_skip ?_
      refine nx (sl 0 rfl (sl 5 rfl (sl 22 rfl (sl 23 rfl (sl 24 rfl sn))))) en ?_
      refine tri_seq ?_
      refine tri_block ?_
      refine tri_seq ?_
      refine tri_reg mixed hcx ?_ _ _
      refine ix rfl rfl slZss ⟨rfl, by omega⟩ ?_
      refine lf rfl tyZs ?_
      refine asg rfl ?_
      refine ⟨by kernel_rfl, ?_⟩
      refine nx (sl 0 rfl (sl 5 rfl (sl 7 rfl (sl 22 rfl (sl 23 rfl (sl 24 rfl sn)))))) en ?_
      rcases Bool.eq_false_or_eq_true p with h5 | h5; rotate_left; rcases Nat.lt_or_ge 12 (b.getD i (cL (cZi k)).dflt).length with h6 | h6; rotate_left; rotate_left
      · subst h5
        refine tri_reg mixed hcx ?_ _ _
        refine mv rfl ?_
        refine mv rfl ?_
        refine j_off rfl rfl rfl rfl ?_
        refine j_off rfl rfl rfl rfl ?_
        refine j_off rfl rfl rfl rfl ?_
        refine pk rfl rfl ?_
        refine asg rfl ?_
        refine ⟨by kernel_rfl, ?_⟩
        refine pn_blk ?_
        refine nx (sl 0 rfl (sl 5 rfl (sl 22 rfl (sl 23 rfl (sl 24 rfl sn))))) en ?_
        refine tri_reg mixed hcx ?_ _ _
        refine ad (((i + 1 : Nat) : Int)) rfl rfl rfl (by omega) ?_
        refine mv rfl ?_
        refine ⟨by kernel_rfl, ?_⟩
        exact pn_back (i + 1, true) (by dsimp only; omega) ⟨by omega, bigU_t (hp.1 rfl)⟩ (sl 0 rfl (sl 5 rfl (sl 22 rfl (sl 23 rfl (sl 24 rfl sn))))) en
      · subst h5
        refine tri_reg mixed hcx ?_ _ _
        refine mv rfl ?_
        refine mv rfl ?_
        refine mv rfl ?_ (hg := gd1)
        refine ln slZs rfl ?_ (hg := gd1)
        refine cgt rfl rfl (decide_eq_true (by omega)) ?_ (hg := gd1)
        refine pk rfl rfl ?_
        refine asg rfl ?_
        refine ⟨by kernel_rfl, ?_⟩
        refine pn_blk ?_
        refine nx (sl 0 rfl (sl 5 rfl (sl 22 rfl (sl 23 rfl (sl 24 rfl sn))))) en ?_
        refine tri_reg mixed hcx ?_ _ _
        refine ad (((i + 1 : Nat) : Int)) rfl rfl rfl (by omega) ?_
        refine mv rfl ?_
        refine ⟨by kernel_rfl, ?_⟩
        exact pn_back (i + 1, true) (by dsimp only; omega) ⟨by omega, bigU_n h6⟩ (sl 0 rfl (sl 5 rfl (sl 22 rfl (sl 23 rfl (sl 24 rfl sn))))) en
      · subst h5
        refine tri_reg mixed hcx ?_ _ _
        refine mv rfl ?_
        refine mv rfl ?_
        refine mv rfl ?_ (hg := gd1)
        refine ln slZs rfl ?_ (hg := gd1)
        refine cgt rfl rfl (decide_eq_false (by omega)) ?_ (hg := gd1)
        refine pk rfl rfl ?_
        refine asg rfl ?_
        refine ⟨by kernel_rfl, ?_⟩
        refine pn_blk ?_
        refine nx (sl 0 rfl (sl 5 rfl (sl 22 rfl (sl 23 rfl (sl 24 rfl sn))))) en ?_
        refine tri_reg mixed hcx ?_ _ _
        refine ad (((i + 1 : Nat) : Int)) rfl rfl rfl (by omega) ?_
        refine mv rfl ?_
        refine ⟨by kernel_rfl, ?_⟩
        exact pn_back (i + 1, false) (by dsimp only; omega) ⟨by omega, bigU_f (fun h => by have := hp.2 h; cases this) (Nat.not_lt.2 h6)⟩ (sl 0 rfl (sl 5 rfl (sl 22 rfl (sl 23 rfl (sl 24 rfl sn))))) en
    · refine tri_exit ?_
      repeat (first | refine pn_then ?_ | refine pn_oth (by decide) ?_)
      refine pn_ex ?_
      have hin : i = b.length := by omega
      rw [hin] at hp
      refine nx (sl 0 rfl (sl 5 rfl sn)) en ?_
      refine tri_seq ?_
      refine tri_seq ?_
      refine tri_reg mixed hcx ?_ _ _
      refine mv rfl ?_
      refine ⟨by kernel_rfl, ?_⟩
      refine nx (sl 0 rfl (sl 35 rfl sn)) en ?_
      refine tri_cond rfl (fun h7 => ?_) (fun h7 => ?_)
      · have h8 : BigB b true := hp.1 h7
        refine tri_seq ?_
        refine tri_reg mixed hcx ?_ _ _
        refine asg rfl ?_
        refine ⟨by kernel_rfl, ?_⟩
        refine nx (sl 4 rfl sn) en ?_
        refine tri_ret ?_
        repeat (first | refine pn_thenr ?_ | refine pn_blkr ?_)
        exact ret1 hcx rfl (rv_tmp rfl) (ci (hR.big h8).symm) en
      · have h8 : ¬ BigB b true := fun h => by have := hp.2 h; rw [h7] at this; cases this
        have hl12 : b.length ≤ 12 := Nat.not_lt.1 fun h => h8 (.inl h)
        have hr12 : ∀ i, i < b.length → (b.getD i []).length ≤ 12 := fun i hi => Nat.not_lt.1 fun h => h8 (.inr (.inr ⟨i, hi, h⟩))
        refine tri_skip ?_
        refine nx (sl 0 rfl sn) en ?_
        refine tri_seq ?_
        refine tri_seq ?_
        refine tri_reg mixed hcx ?_ _ _
        refine mv rfl ?_
        refine ln slZss rfl ?_
        refine ceq rfl rfl rfl ?_
        refine ⟨by kernel_rfl, ?_⟩
        refine nx (sl 0 rfl (sl 38 rfl sn)) en ?_
        refine tri_if rfl (fun h9 => ?_) (fun h9 => ?_)
        · refine tri_seq ?_
          refine tri_reg mixed hcx ?_ _ _
          refine asg rfl ?_
          refine ⟨by kernel_rfl, ?_⟩
          refine nx (sl 4 rfl sn) en ?_
          refine tri_ret ?_
          repeat (first | refine pn_thenr ?_ | refine pn_blkr ?_)
          exact ret1 hcx rfl (rv_tmp rfl) (ci (hR.nil h8 (by omega)).symm) en
        · have h0 : 0 < b.length := by omega
          refine tri_skip ?_
          refine nx (sl 0 rfl sn) en ?_
          refine tri_seq ?_
          by_cases h10 : BadB b
          · refine tri_reg mixed hcx ?_ _ _
            refine mv rfl ?_
            refine ca rfl (h := mat_Shape_bad h0 hl12 h10 hr12) (hn := ?_)
            refine mv rfl ?_
            refine ex rfl rfl ?_
            refine ex rfl rfl ?_
            refine ex rfl rfl ?_
            refine asg rfl ?_
            refine asg rfl ?_
            refine asg rfl ?_
            refine ⟨by kernel_rfl, ?_⟩
            refine nx (sl 10 rfl sn) en ?_
            refine tri_seq ?_
            refine tri_reg mixed hcx ?_ _ _
            refine mv rfl ?_
            refine asg rfl ?_
            refine ⟨by kernel_rfl, ?_⟩
            refine nx (sl 4 rfl sn) en ?_
            refine tri_ret ?_
            repeat (first | refine pn_thenr ?_ | refine pn_blkr ?_)
            exact ret1 hcx rfl (rv_tmp rfl) (ci (hR.bad h8 (by omega) h10).symm) en
          · have hm : ∀ i, i < b.length → (b.getD i []).length = (b.getD 0 []).length := fun i hi => Decidable.not_not.1 fun e => h10 ⟨i, hi, e⟩
            refine tri_reg mixed hcx ?_ _ _
            refine mv rfl ?_
            refine ca rfl (h := mat_Shape h0 hl12 hm) (hn := ?_)
            refine mv rfl ?_
            refine ex rfl rfl ?_
            refine ex rfl rfl ?_
            refine ex rfl rfl ?_
            refine asg rfl ?_
            refine asg rfl ?_
            refine asg rfl ?_
            refine ⟨by kernel_rfl, ?_⟩
            refine nx (sl 10 rfl sn) en ?_
            refine tri_seq ?_
            refine tri_reg mixed hcx ?_ _ _
            refine mv rfl ?_
            refine asg rfl ?_
            refine ⟨by kernel_rfl, ?_⟩
            refine nx (sl 4 rfl sn) en ?_
            refine tri_ret ?_
            repeat (first | refine pn_thenr ?_ | refine pn_blkr ?_)
            exact ret1 hcx rfl (rv_tmp rfl) (ci (hR.ok h8 (by omega) h10).symm) en
  · refine tri_reg mixed hcx ?_ _ _
    refine mv rfl ?_
    refine ln slZss rfl ?_
    refine cgt rfl rfl (decide_eq_false (by omega)) ?_
    refine mv rfl ?_
    refine mv rfl ?_ (hg := gd1)
    refine mv rfl ?_ (hg := gd1)
    refine mv rfl ?_ (hg := gd1)
    refine ca rfl (h := mat_Bits (by omega) (by omega) hrr) (hn := ?_) (hg := gd1)
    refine cgt rfl rfl (decide_eq_true (by omega)) ?_ (hg := gd1)
    refine pk rfl rfl ?_ (hg := gd1)
    refine pk rfl rfl ?_
    refine asg rfl ?_
    refine ⟨by kernel_rfl, ?_⟩
    refine nx (sl 0 rfl (sl 5 rfl sn)) en ?_
    refine tri_seq ?_
    refine tri_seq ?_
    refine tri_reg mixed hcx ?_ _ _
    refine mv rfl ?_
    refine ln slZss rfl ?_
    refine mv rfl ?_
    refine ⟨by kernel_rfl, ?_⟩
    refine nx (sl 0 rfl (sl 5 rfl (sl 22 rfl (sl 23 rfl (sl 24 rfl sn))))) en ?_
    refine tri_block ?_
    refine tri_loop (ι := Nat × Bool) (fun (i, p) => [(0, T.l (cL (cZi k)) b), (5, T.c (.bool p)), (22, T.l (cL (cZi k)) b), (23, T.c (.int .i64 (b.length : Int))), (24, T.c (.int .i64 (i : Int)))]) (fun (i, p) => []) (fun (i, p) => b.length - i) (fun (i, p) => (i ≤ b.length) ∧ (p = true ↔ BigU b true i)) (0, true) ⟨Nat.zero_le _, bigU_zero ⟨fun _ => .inr ⟨rfl, h2⟩, fun _ => rfl⟩⟩ (sl 0 rfl (sl 5 rfl (sl 22 rfl (sl 23 rfl (sl 24 rfl sn))))) en ?_
    rintro ⟨i, p⟩ ⟨hi, hp⟩
    refine tri_sub (sl 0 rfl (sl 5 rfl (sl 22 rfl (sl 23 rfl (sl 24 rfl sn))))) en ?_
    refine tri_seq ?_
    refine tri_reg mixed hcx ?_ _ _
    refine clt rfl rfl rfl ?_
    refine ⟨by kernel_rfl, ?_⟩
    refine nx (sl 0 rfl (sl 5 rfl (sl 22 rfl (sl 23 rfl (sl 24 rfl (sl 25 rfl sn)))))) en ?_
    refine tri_seq ?_
    refine tri_if rfl (fun hc => ?_) (fun hc => ?_)
    · have hmi : (b.getD i (cL (cZi k)).dflt).length ≤ 1048576 := hrr i (by omega)
      refine tri_skip ?_
      refine nx (sl 0 rfl (sl 5 rfl (sl 22 rfl (sl 23 rfl (sl 24 rfl sn))))) en ?_
      refine tri_seq ?_
      refine tri_block ?_
      refine tri_seq ?_
      refine tri_reg mixed hcx ?_ _ _
      refine ix rfl rfl slZss ⟨rfl, by omega⟩ ?_
      refine lf rfl tyZs ?_
      refine asg rfl ?_
      refine ⟨by kernel_rfl, ?_⟩
      refine nx (sl 0 rfl (sl 5 rfl (sl 7 rfl (sl 22 rfl (sl 23 rfl (sl 24 rfl sn)))))) en ?_
      rcases Bool.eq_false_or_eq_true p with h5 | h5; rotate_left; rcases Nat.lt_or_ge 12 (b.getD i (cL (cZi k)).dflt).length with h6 | h6; rotate_left; rotate_left
      · subst h5
        refine tri_reg mixed hcx ?_ _ _
        refine mv rfl ?_
        refine mv rfl ?_
        refine j_off rfl rfl rfl rfl ?_
        refine j_off rfl rfl rfl rfl ?_
        refine j_off rfl rfl rfl rfl ?_
        refine pk rfl rfl ?_
        refine asg rfl ?_
        refine ⟨by kernel_rfl, ?_⟩
        refine pn_blk ?_
        refine nx (sl 0 rfl (sl 5 rfl (sl 22 rfl (sl 23 rfl (sl 24 rfl sn))))) en ?_
        refine tri_reg mixed hcx ?_ _ _
        refine ad (((i + 1 : Nat) : Int)) rfl rfl rfl (by omega) ?_
        refine mv rfl ?_
        refine ⟨by kernel_rfl, ?_⟩
        exact pn_back (i + 1, true) (by dsimp only; omega) ⟨by omega, bigU_t (hp.1 rfl)⟩ (sl 0 rfl (sl 5 rfl (sl 22 rfl (sl 23 rfl (sl 24 rfl sn))))) en
      · subst h5
        refine tri_reg mixed hcx ?_ _ _
        refine mv rfl ?_
        refine mv rfl ?_
        refine mv rfl ?_ (hg := gd1)
        refine ln slZs rfl ?_ (hg := gd1)
        refine cgt rfl rfl (decide_eq_true (by omega)) ?_ (hg := gd1)
        refine pk rfl rfl ?_
        refine asg rfl ?_
        refine ⟨by kernel_rfl, ?_⟩
        refine pn_blk ?_
        refine nx (sl 0 rfl (sl 5 rfl (sl 22 rfl (sl 23 rfl (sl 24 rfl sn))))) en ?_
        refine tri_reg mixed hcx ?_ _ _
        refine ad (((i + 1 : Nat) : Int)) rfl rfl rfl (by omega) ?_
        refine mv rfl ?_
        refine ⟨by kernel_rfl, ?_⟩
        exact pn_back (i + 1, true) (by dsimp only; omega) ⟨by omega, bigU_n h6⟩ (sl 0 rfl (sl 5 rfl (sl 22 rfl (sl 23 rfl (sl 24 rfl sn))))) en
      · subst h5
        refine tri_reg mixed hcx ?_ _ _
        refine mv rfl ?_
        refine mv rfl ?_
        refine mv rfl ?_ (hg := gd1)
        refine ln slZs rfl ?_ (hg := gd1)
        refine cgt rfl rfl (decide_eq_false (by omega)) ?_ (hg := gd1)
        refine pk rfl rfl ?_
        refine asg rfl ?_
        refine ⟨by kernel_rfl, ?_⟩
        refine pn_blk ?_
        refine nx (sl 0 rfl (sl 5 rfl (sl 22 rfl (sl 23 rfl (sl 24 rfl sn))))) en ?_
        refine tri_reg mixed hcx ?_ _ _
        refine ad (((i + 1 : Nat) : Int)) rfl rfl rfl (by omega) ?_
        refine mv rfl ?_
        refine ⟨by kernel_rfl, ?_⟩
        exact pn_back (i + 1, false) (by dsimp only; omega) ⟨by omega, bigU_f (fun h => by have := hp.2 h; cases this) (Nat.not_lt.2 h6)⟩ (sl 0 rfl (sl 5 rfl (sl 22 rfl (sl 23 rfl (sl 24 rfl sn))))) en
    · refine tri_exit ?_
      repeat (first | refine pn_then ?_ | refine pn_oth (by decide) ?_)
      refine pn_ex ?_
      have hin : i = b.length := by omega
      rw [hin] at hp
      refine nx (sl 0 rfl (sl 5 rfl sn)) en ?_
      refine tri_seq ?_
      refine tri_seq ?_
      refine tri_reg mixed hcx ?_ _ _
      refine mv rfl ?_
      refine ⟨by kernel_rfl, ?_⟩
      refine nx (sl 0 rfl (sl 35 rfl sn)) en ?_
      refine tri_cond rfl (fun h7 => ?_) (fun h7 => ?_)
      · have h8 : BigB b true := hp.1 h7
        refine tri_seq ?_
        refine tri_reg mixed hcx ?_ _ _
        refine asg rfl ?_
        refine ⟨by kernel_rfl, ?_⟩
        refine nx (sl 4 rfl sn) en ?_
        refine tri_ret ?_
        repeat (first | refine pn_thenr ?_ | refine pn_blkr ?_)
        exact ret1 hcx rfl (rv_tmp rfl) (ci (hR.big h8).symm) en
      · have h8 : ¬ BigB b true := fun h => by have := hp.2 h; rw [h7] at this; cases this
        have hl12 : b.length ≤ 12 := Nat.not_lt.1 fun h => h8 (.inl h)
        have hr12 : ∀ i, i < b.length → (b.getD i []).length ≤ 12 := fun i hi => Nat.not_lt.1 fun h => h8 (.inr (.inr ⟨i, hi, h⟩))
        refine tri_skip ?_
        refine nx (sl 0 rfl sn) en ?_
        refine tri_seq ?_
        refine tri_seq ?_
        refine tri_reg mixed hcx ?_ _ _
        refine mv rfl ?_
        refine ln slZss rfl ?_
        refine ceq rfl rfl rfl ?_
        refine ⟨by kernel_rfl, ?_⟩
        refine nx (sl 0 rfl (sl 38 rfl sn)) en ?_
        refine tri_if rfl (fun h9 => ?_) (fun h9 => ?_)
        · refine tri_seq ?_
          refine tri_reg mixed hcx ?_ _ _
          refine asg rfl ?_
          refine ⟨by kernel_rfl, ?_⟩
          refine nx (sl 4 rfl sn) en ?_
          refine tri_ret ?_
          repeat (first | refine pn_thenr ?_ | refine pn_blkr ?_)
          exact ret1 hcx rfl (rv_tmp rfl) (ci (hR.nil h8 (by omega)).symm) en
        · have h0 : 0 < b.length := by omega
          refine tri_skip ?_
          refine nx (sl 0 rfl sn) en ?_
          refine tri_seq ?_
          by_cases h10 : BadB b
          · refine tri_reg mixed hcx ?_ _ _
            refine mv rfl ?_
            refine ca rfl (h := mat_Shape_bad h0 hl12 h10 hr12) (hn := ?_)
            refine mv rfl ?_
            refine ex rfl rfl ?_
            refine ex rfl rfl ?_
            refine ex rfl rfl ?_
            refine asg rfl ?_
            refine asg rfl ?_
            refine asg rfl ?_
            refine ⟨by kernel_rfl, ?_⟩
            refine nx (sl 10 rfl sn) en ?_
            refine tri_seq ?_
            refine tri_reg mixed hcx ?_ _ _
            refine mv rfl ?_
            refine asg rfl ?_
            refine ⟨by kernel_rfl, ?_⟩
            refine nx (sl 4 rfl sn) en ?_
            refine tri_ret ?_
            repeat (first | refine pn_thenr ?_ | refine pn_blkr ?_)
            exact ret1 hcx rfl (rv_tmp rfl) (ci (hR.bad h8 (by omega) h10).symm) en
          · have hm : ∀ i, i < b.length → (b.getD i []).length = (b.getD 0 []).length := fun i hi => Decidable.not_not.1 fun e => h10 ⟨i, hi, e⟩
            refine tri_reg mixed hcx ?_ _ _
            refine mv rfl ?_
            refine ca rfl (h := mat_Shape h0 hl12 hm) (hn := ?_)
            refine mv rfl ?_
            refine ex rfl rfl ?_
            refine ex rfl rfl ?_
            refine ex rfl rfl ?_
            refine asg rfl ?_
            refine asg rfl ?_
            refine asg rfl ?_
            refine ⟨by kernel_rfl, ?_⟩
            refine nx (sl 10 rfl sn) en ?_
            refine tri_seq ?_
            refine tri_reg mixed hcx ?_ _ _
            refine mv rfl ?_
            refine asg rfl ?_
            refine ⟨by kernel_rfl, ?_⟩
            refine nx (sl 4 rfl sn) en ?_
            refine tri_ret ?_
            repeat (first | refine pn_thenr ?_ | refine pn_blkr ?_)
            exact ret1 hcx rfl (rv_tmp rfl) (ci (hR.ok h8 (by omega) h10).symm) en
  · refine tri_reg mixed hcx ?_ _ _
    refine mv rfl ?_
    refine ln slZss rfl ?_
    refine cgt rfl rfl (decide_eq_false (by omega)) ?_
    refine mv rfl ?_
    refine mv rfl ?_ (hg := gd1)
    refine mv rfl ?_ (hg := gd1)
    refine mv rfl ?_ (hg := gd1)
    refine ca rfl (h := mat_Bits (by omega) (by omega) hrr) (hn := ?_) (hg := gd1)
    refine cgt rfl rfl (decide_eq_false (by omega)) ?_ (hg := gd1)
    refine pk rfl rfl ?_ (hg := gd1)
    refine pk rfl rfl ?_
    refine asg rfl ?_
    refine ⟨by kernel_rfl, ?_⟩
    refine nx (sl 0 rfl (sl 5 rfl sn)) en ?_
    refine tri_seq ?_
    refine tri_seq ?_
    refine tri_reg mixed hcx ?_ _ _
    refine mv rfl ?_
    refine ln slZss rfl ?_
    refine mv rfl ?_
    refine ⟨by kernel_rfl, ?_⟩
    refine nx (sl 0 rfl (sl 5 rfl (sl 22 rfl (sl 23 rfl (sl 24 rfl sn))))) en ?_
    refine tri_block ?_
    refine tri_loop (ι := Nat × Bool) (fun (i, p) => [(0, T.l (cL (cZi k)) b), (5, T.c (.bool p)), (22, T.l (cL (cZi k)) b), (23, T.c (.int .i64 (b.length : Int))), (24, T.c (.int .i64 (i : Int)))]) (fun (i, p) => []) (fun (i, p) => b.length - i) (fun (i, p) => (i ≤ b.length) ∧ (p = true ↔ BigU b true i)) (0, false) ⟨Nat.zero_le _, bigU_zero ⟨fun h => (by cases h), fun h => by rcases h with h | h <;> omega⟩⟩ (sl 0 rfl (sl 5 rfl (sl 22 rfl (sl 23 rfl (sl 24 rfl sn))))) en ?_
    rintro ⟨i, p⟩ ⟨hi, hp⟩
    refine tri_sub (sl 0 rfl (sl 5 rfl (sl 22 rfl (sl 23 rfl (sl 24 rfl sn))))) en ?_
    refine tri_seq ?_
    refine tri_reg mixed hcx ?_ _ _
    refine clt rfl rfl rfl ?_
    refine ⟨by kernel_rfl, ?_⟩
    refine nx (sl 0 rfl (sl 5 rfl (sl 22 rfl (sl 23 rfl (sl 24 rfl (sl 25 rfl sn)))))) en ?_
    refine tri_seq ?_
    refine tri_if rfl (fun hc => ?_) (fun hc => ?_)
    · have hmi : (b.getD i (cL (cZi k)).dflt).length ≤ 1048576 := hrr i (by omega)
      refine tri_skip ?_
      refine nx (sl 0 rfl (sl 5 rfl (sl 22 rfl (sl 23 rfl (sl 24 rfl sn))))) en ?_
      refine tri_seq ?_
      refine tri_block ?_
      refine tri_seq ?_
      refine tri_reg mixed hcx ?_ _ _
      refine ix rfl rfl slZss ⟨rfl, by omega⟩ ?_
      refine lf rfl tyZs ?_
      refine asg rfl ?_
      refine ⟨by kernel_rfl, ?_⟩
      refine nx (sl 0 rfl (sl 5 rfl (sl 7 rfl (sl 22 rfl (sl 23 rfl (sl 24 rfl sn)))))) en ?_
      rcases Bool.eq_false_or_eq_true p with h5 | h5; rotate_left; rcases Nat.lt_or_ge 12 (b.getD i (cL (cZi k)).dflt).length with h6 | h6; rotate_left; rotate_left
      · subst h5
        refine tri_reg mixed hcx ?_ _ _
        refine mv rfl ?_
        refine mv rfl ?_
        refine j_off rfl rfl rfl rfl ?_
        refine j_off rfl rfl rfl rfl ?_
        refine j_off rfl rfl rfl rfl ?_
        refine pk rfl rfl ?_
        refine asg rfl ?_
        refine ⟨by kernel_rfl, ?_⟩
        refine pn_blk ?_
        refine nx (sl 0 rfl (sl 5 rfl (sl 22 rfl (sl 23 rfl (sl 24 rfl sn))))) en ?_
        refine tri_reg mixed hcx ?_ _ _
        refine ad (((i + 1 : Nat) : Int)) rfl rfl rfl (by omega) ?_
        refine mv rfl ?_
        refine ⟨by kernel_rfl, ?_⟩
        exact pn_back (i + 1, true) (by dsimp only; omega) ⟨by omega, bigU_t (hp.1 rfl)⟩ (sl 0 rfl (sl 5 rfl (sl 22 rfl (sl 23 rfl (sl 24 rfl sn))))) en
      · subst h5
        refine tri_reg mixed hcx ?_ _ _
        refine mv rfl ?_
        refine mv rfl ?_
        refine mv rfl ?_ (hg := gd1)
        refine ln slZs rfl ?_ (hg := gd1)
        refine cgt rfl rfl (decide_eq_true (by omega)) ?_ (hg := gd1)
        refine pk rfl rfl ?_
        refine asg rfl ?_
        refine ⟨by kernel_rfl, ?_⟩
        refine pn_blk ?_
        refine nx (sl 0 rfl (sl 5 rfl (sl 22 rfl (sl 23 rfl (sl 24 rfl sn))))) en ?_
        refine tri_reg mixed hcx ?_ _ _
        refine ad (((i + 1 : Nat) : Int)) rfl rfl rfl (by omega) ?_
        refine mv rfl ?_
        refine ⟨by kernel_rfl, ?_⟩
        exact pn_back (i + 1, true) (by dsimp only; omega) ⟨by omega, bigU_n h6⟩ (sl 0 rfl (sl 5 rfl (sl 22 rfl (sl 23 rfl (sl 24 rfl sn))))) en
      · subst h5
        refine tri_reg mixed hcx ?_ _ _
        refine mv rfl ?_
        refine mv rfl ?_
        refine mv rfl ?_ (hg := gd1)
        refine ln slZs rfl ?_ (hg := gd1)
        refine cgt rfl rfl (decide_eq_false (by omega)) ?_ (hg := gd1)
        refine pk rfl rfl ?_
        refine asg rfl ?_
        refine ⟨by kernel_rfl, ?_⟩
        refine pn_blk ?_
        refine nx (sl 0 rfl (sl 5 rfl (sl 22 rfl (sl 23 rfl (sl 24 rfl sn))))) en ?_
        refine tri_reg mixed hcx ?_ _ _
        refine ad (((i + 1 : Nat) : Int)) rfl rfl rfl (by omega) ?_
        refine mv rfl ?_
        refine ⟨by kernel_rfl, ?_⟩
        exact pn_back (i + 1, false) (by dsimp only; omega) ⟨by omega, bigU_f (fun h => by have := hp.2 h; cases this) (Nat.not_lt.2 h6)⟩ (sl 0 rfl (sl 5 rfl (sl 22 rfl (sl 23 rfl (sl 24 rfl sn))))) en
    · refine tri_exit ?_
      repeat (first | refine pn_then ?_ | refine pn_oth (by decide) ?_)
      refine pn_ex ?_
      have hin : i = b.length := by omega
      rw [hin] at hp
      refine nx (sl 0 rfl (sl 5 rfl sn)) en ?_
      refine tri_seq ?_
      refine tri_seq ?_
      refine tri_reg mixed hcx ?_ _ _
      refine mv rfl ?_
      refine ⟨by kernel_rfl, ?_⟩
      refine nx (sl 0 rfl (sl 35 rfl sn)) en ?_
      refine tri_cond rfl (fun h7 => ?_) (fun h7 => ?_)
      · have h8 : BigB b true := hp.1 h7
        refine tri_seq ?_
        refine tri_reg mixed hcx ?_ _ _
        refine asg rfl ?_
        refine ⟨by kernel_rfl, ?_⟩
        refine nx (sl 4 rfl sn) en ?_
        refine tri_ret ?_
        repeat (first | refine pn_thenr ?_ | refine pn_blkr ?_)
        exact ret1 hcx rfl (rv_tmp rfl) (ci (hR.big h8).symm) en
      · have h8 : ¬ BigB b true := fun h => by have := hp.2 h; rw [h7] at this; cases this
        have hl12 : b.length ≤ 12 := Nat.not_lt.1 fun h => h8 (.inl h)
        have hr12 : ∀ i, i < b.length → (b.getD i []).length ≤ 12 := fun i hi => Nat.not_lt.1 fun h => h8 (.inr (.inr ⟨i, hi, h⟩))
        refine tri_skip ?_
        refine nx (sl 0 rfl sn) en ?_
        refine tri_seq ?_
        refine tri_seq ?_
        refine tri_reg mixed hcx ?_ _ _
        refine mv rfl ?_
        refine ln slZss rfl ?_
        refine ceq rfl rfl rfl ?_
        refine ⟨by kernel_rfl, ?_⟩
        refine nx (sl 0 rfl (sl 38 rfl sn)) en ?_
        refine tri_if rfl (fun h9 => ?_) (fun h9 => ?_)
        · refine tri_seq ?_
          refine tri_reg mixed hcx ?_ _ _
          refine asg rfl ?_
          refine ⟨by kernel_rfl, ?_⟩
          refine nx (sl 4 rfl sn) en ?_
          refine tri_ret ?_
          repeat (first | refine pn_thenr ?_ | refine pn_blkr ?_)
          exact ret1 hcx rfl (rv_tmp rfl) (ci (hR.nil h8 (by omega)).symm) en
        · have h0 : 0 < b.length := by omega
          refine tri_skip ?_
          refine nx (sl 0 rfl sn) en ?_
          refine tri_seq ?_
          by_cases h10 : BadB b
          · refine tri_reg mixed hcx ?_ _ _
            refine mv rfl ?_
            refine ca rfl (h := mat_Shape_bad h0 hl12 h10 hr12) (hn := ?_)
            refine mv rfl ?_
            refine ex rfl rfl ?_
            refine ex rfl rfl ?_
            refine ex rfl rfl ?_
            refine asg rfl ?_
            refine asg rfl ?_
            refine asg rfl ?_
            refine ⟨by kernel_rfl, ?_⟩
            refine nx (sl 10 rfl sn) en ?_
            refine tri_seq ?_
            refine tri_reg mixed hcx ?_ _ _
            refine mv rfl ?_
            refine asg rfl ?_
            refine ⟨by kernel_rfl, ?_⟩
            refine nx (sl 4 rfl sn) en ?_
            refine tri_ret ?_
            repeat (first | refine pn_thenr ?_ | refine pn_blkr ?_)
            exact ret1 hcx rfl (rv_tmp rfl) (ci (hR.bad h8 (by omega) h10).symm) en
          · have hm : ∀ i, i < b.length → (b.getD i []).length = (b.getD 0 []).length := fun i hi => Decidable.not_not.1 fun e => h10 ⟨i, hi, e⟩
            refine tri_reg mixed hcx ?_ _ _
            refine mv rfl ?_
            refine ca rfl (h := mat_Shape h0 hl12 hm) (hn := ?_)
            refine mv rfl ?_
            refine ex rfl rfl ?_
            refine ex rfl rfl ?_
            refine ex rfl rfl ?_
            refine asg rfl ?_
            refine asg rfl ?_
            refine asg rfl ?_
            refine ⟨by kernel_rfl, ?_⟩
            refine nx (sl 10 rfl sn) en ?_
            refine tri_seq ?_
            refine tri_reg mixed hcx ?_ _ _
            refine mv rfl ?_
            refine asg rfl ?_
            refine ⟨by kernel_rfl, ?_⟩
            refine nx (sl 4 rfl sn) en ?_
            refine tri_ret ?_
            repeat (first | refine pn_thenr ?_ | refine pn_blkr ?_)
            exact ret1 hcx rfl (rv_tmp rfl) (ci (hR.ok h8 (by omega) h10).symm) en

theorem g_shaped_f {b : List (List Int)} {k : Nat} {r : Int} (hk : k ≤ 1048576) (hbl : b.length ≤ 1048576) (hrr : ∀ i, i < b.length → (b.getD i []).length ≤ 1048576) (hR : ShR b false r) : Fn Try.prog 131 [T.l (cL (cZi k)) b, T.c (.bool false)] [] [] [] (T.c (.int .i64 r)) := by
  refine fn_of Try.func131 rfl (by show 2 ≤ 46; decide) fun cx hcx => ?_
  refine tri_sub (sl 0 rfl (sl 1 rfl sn)) en ?_
  refine tri_seq ?_
  refine tri_reg mixed hcx ?_ _ _
  refine asg rfl ?_
  refine ⟨by kernel_rfl, ?_⟩
  refine nx (sl 0 rfl (sl 1 rfl sn)) en ?_
  refine tri_seq ?_
  rcases Nat.lt_or_ge 12 b.length with h1 | h1
  · refine tri_reg mixed hcx ?_ _ _
    refine mv rfl ?_
    refine ln slZss rfl ?_
    refine cgt rfl rfl (decide_eq_true (by omega)) ?_
    refine mv rfl ?_
    refine j_off rfl rfl rfl rfl ?_
    refine j_off rfl rfl rfl rfl ?_
    refine j_ofu rfl rfl rfl ?_
    refine j_ofu rfl rfl rfl ?_
    refine j_ofu rfl rfl rfl ?_
    refine j_off rfl rfl rfl rfl ?_
    refine pk rfl rfl ?_
    refine asg rfl ?_
    refine ⟨by kernel_rfl, ?_⟩
    refine nx (sl 0 rfl (sl 5 rfl sn)) en ?_
    refine tri_seq ?_
    refine tri_seq ?_
    refine tri_reg mixed hcx ?_ _ _
    refine mv rfl ?_
    refine ln slZss rfl ?_
    refine mv rfl ?_
    refine ⟨by kernel_rfl, ?_⟩
    refine nx (sl 0 rfl (sl 5 rfl (sl 22 rfl (sl 23 rfl (sl 24 rfl sn))))) en ?_
    refine tri_block ?_
    refine tri_loop (ι := Nat × Bool) (fun (i, p) => [(0, T.l (cL (cZi k)) b), (5, T.c (.bool p)), (22, T.l (cL (cZi k)) b), (23, T.c (.int .i64 (b.length : Int))), (24, T.c (.int .i64 (i : Int)))]) (fun (i, p) => []) (fun (i, p) => b.length - i) (fun (i, p) => (i ≤ b.length) ∧ (p = true ↔ BigU b false i)) (0, true) ⟨Nat.zero_le _, bigU_zero ⟨fun _ => .inl h1, fun _ => rfl⟩⟩ (sl 0 rfl (sl 5 rfl (sl 22 rfl (sl 23 rfl (sl 24 rfl sn))))) en ?_
    rintro ⟨i, p⟩ ⟨hi, hp⟩
    refine tri_sub (sl 0 rfl (sl 5 rfl (sl 22 rfl (sl 23 rfl (sl 24 rfl sn))))) en ?_
    refine tri_seq ?_
    refine tri_reg mixed hcx ?_ _ _
    refine clt rfl rfl rfl ?_
    refine ⟨by kernel_rfl, ?_⟩
    refine nx (sl 0 rfl (sl 5 rfl (sl 22 rfl (sl 23 rfl (sl 24 rfl (sl 25 rfl sn)))))) en ?_
    refine tri_seq ?_
    refine tri_if rfl (fun hc => ?_) (fun hc => ?_)
    · have hmi : (b.getD i (cL (cZi k)).dflt).length ≤ 1048576 := hrr i (by omega)
      refine tri_skip ?_
      refine nx (sl 0 rfl (sl 5 rfl (sl 22 rfl (sl 23 rfl (sl 24 rfl sn))))) en ?_
      refine tri_seq ?_
      refine tri_block ?_
      refine tri_seq ?_
      refine tri_reg mixed hcx ?_ _ _
      refine ix rfl rfl slZss ⟨rfl, by omega⟩ ?_
      refine lf rfl tyZs ?_
      refine asg rfl ?_
      refine ⟨by kernel_rfl, ?_⟩
      refine nx (sl 0 rfl (sl 5 rfl (sl 7 rfl (sl 22 rfl (sl 23 rfl (sl 24 rfl sn)))))) en ?_
      rcases Bool.eq_false_or_eq_true p with h5 | h5; rotate_left; rcases Nat.lt_or_ge 12 (b.getD i (cL (cZi k)).dflt).length with h6 | h6; rotate_left; rotate_left
      · subst h5
        refine tri_reg mixed hcx ?_ _ _
        refine mv rfl ?_
        refine mv rfl ?_
        refine j_off rfl rfl rfl rfl ?_
        refine j_off rfl rfl rfl rfl ?_
        refine j_off rfl rfl rfl rfl ?_
        refine pk rfl rfl ?_
        refine asg rfl ?_
        refine ⟨by kernel_rfl, ?_⟩
        refine pn_blk ?_
        refine nx (sl 0 rfl (sl 5 rfl (sl 22 rfl (sl 23 rfl (sl 24 rfl sn))))) en ?_
        refine tri_reg mixed hcx ?_ _ _
        refine ad (((i + 1 : Nat) : Int)) rfl rfl rfl (by omega) ?_
        refine mv rfl ?_
        refine ⟨by kernel_rfl, ?_⟩
        exact pn_back (i + 1, true) (by dsimp only; omega) ⟨by omega, bigU_t (hp.1 rfl)⟩ (sl 0 rfl (sl 5 rfl (sl 22 rfl (sl 23 rfl (sl 24 rfl sn))))) en
      · subst h5
        refine tri_reg mixed hcx ?_ _ _
        refine mv rfl ?_
        refine mv rfl ?_
        refine mv rfl ?_ (hg := gd1)
        refine ln slZs rfl ?_ (hg := gd1)
        refine cgt rfl rfl (decide_eq_true (by omega)) ?_ (hg := gd1)
        refine pk rfl rfl ?_
        refine asg rfl ?_
        refine ⟨by kernel_rfl, ?_⟩
        refine pn_blk ?_
        refine nx (sl 0 rfl (sl 5 rfl (sl 22 rfl (sl 23 rfl (sl 24 rfl sn))))) en ?_
        refine tri_reg mixed hcx ?_ _ _
        refine ad (((i + 1 : Nat) : Int)) rfl rfl rfl (by omega) ?_
        refine mv rfl ?_
        refine ⟨by kernel_rfl, ?_⟩
        exact pn_back (i + 1, true) (by dsimp only; omega) ⟨by omega, bigU_n h6⟩ (sl 0 rfl (sl 5 rfl (sl 22 rfl (sl 23 rfl (sl 24 rfl sn))))) en
      · subst h5
        refine tri_reg mixed hcx ?_ _ _
        refine mv rfl ?_
        refine mv rfl ?_
        refine mv rfl ?_ (hg := gd1)
        refine ln slZs rfl ?_ (hg := gd1)
        refine cgt rfl rfl (decide_eq_false (by omega)) ?_ (hg := gd1)
        refine pk rfl rfl ?_
        refine asg rfl ?_
        refine ⟨by kernel_rfl, ?_⟩
        refine pn_blk ?_
        refine nx (sl 0 rfl (sl 5 rfl (sl 22 rfl (sl 23 rfl (sl 24 rfl sn))))) en ?_
        refine tri_reg mixed hcx ?_ _ _
        refine ad (((i + 1 : Nat) : Int)) rfl rfl rfl (by omega) ?_
        refine mv rfl ?_
        refine ⟨by kernel_rfl, ?_⟩
        exact pn_back (i + 1, false) (by dsimp only; omega) ⟨by omega, bigU_f (fun h => by have := hp.2 h; cases this) (Nat.not_lt.2 h6)⟩ (sl 0 rfl (sl 5 rfl (sl 22 rfl (sl 23 rfl (sl 24 rfl sn))))) en
    · refine tri_exit ?_
      repeat (first | refine pn_then ?_ | refine pn_oth (by decide) ?_)
      refine pn_ex ?_
      have hin : i = b.length := by omega
      rw [hin] at hp
      refine nx (sl 0 rfl (sl 5 rfl sn)) en ?_
      refine tri_seq ?_
      refine tri_seq ?_
      refine tri_reg mixed hcx ?_ _ _
      refine mv rfl ?_
      refine ⟨by kernel_rfl, ?_⟩
      refine nx (sl 0 rfl (sl 35 rfl sn)) en ?_
      refine tri_cond rfl (fun h7 => ?_) (fun h7 => ?_)
      · have h8 : BigB b false := hp.1 h7
        refine tri_seq ?_
        refine tri_reg mixed hcx ?_ _ _
        refine asg rfl ?_
        refine ⟨by kernel_rfl, ?_⟩
        refine nx (sl 4 rfl sn) en ?_
        refine tri_ret ?_
        repeat (first | refine pn_thenr ?_ | refine pn_blkr ?_)
        exact ret1 hcx rfl (rv_tmp rfl) (ci (hR.big h8).symm) en
      · have h8 : ¬ BigB b false := fun h => by have := hp.2 h; rw [h7] at this; cases this
        have hl12 : b.length ≤ 12 := Nat.not_lt.1 fun h => h8 (.inl h)
        have hr12 : ∀ i, i < b.length → (b.getD i []).length ≤ 12 := fun i hi => Nat.not_lt.1 fun h => h8 (.inr (.inr ⟨i, hi, h⟩))
        refine tri_skip ?_
        refine nx (sl 0 rfl sn) en ?_
        refine tri_seq ?_
        refine tri_seq ?_
        refine tri_reg mixed hcx ?_ _ _
        refine mv rfl ?_
        refine ln slZss rfl ?_
        refine ceq rfl rfl rfl ?_
        refine ⟨by kernel_rfl, ?_⟩
        refine nx (sl 0 rfl (sl 38 rfl sn)) en ?_
        refine tri_if rfl (fun h9 => ?_) (fun h9 => ?_)
        · refine tri_seq ?_
          refine tri_reg mixed hcx ?_ _ _
          refine asg rfl ?_
          refine ⟨by kernel_rfl, ?_⟩
          refine nx (sl 4 rfl sn) en ?_
          refine tri_ret ?_
          repeat (first | refine pn_thenr ?_ | refine pn_blkr ?_)
          exact ret1 hcx rfl (rv_tmp rfl) (ci (hR.nil h8 (by omega)).symm) en
        · have h0 : 0 < b.length := by omega
          refine tri_skip ?_
          refine nx (sl 0 rfl sn) en ?_
          refine tri_seq ?_
          by_cases h10 : BadB b
          · refine tri_reg mixed hcx ?_ _ _
            refine mv rfl ?_
            refine ca rfl (h := mat_Shape_bad h0 hl12 h10 hr12) (hn := ?_)
            refine mv rfl ?_
            refine ex rfl rfl ?_
            refine ex rfl rfl ?_
            refine ex rfl rfl ?_
            refine asg rfl ?_
            refine asg rfl ?_
            refine asg rfl ?_
            refine ⟨by kernel_rfl, ?_⟩
            refine nx (sl 10 rfl sn) en ?_
            refine tri_seq ?_
            refine tri_reg mixed hcx ?_ _ _
            refine mv rfl ?_
            refine asg rfl ?_
            refine ⟨by kernel_rfl, ?_⟩
            refine nx (sl 4 rfl sn) en ?_
            refine tri_ret ?_
            repeat (first | refine pn_thenr ?_ | refine pn_blkr ?_)
            exact ret1 hcx rfl (rv_tmp rfl) (ci (hR.bad h8 (by omega) h10).symm) en
          · have hm : ∀ i, i < b.length → (b.getD i []).length = (b.getD 0 []).length := fun i hi => Decidable.not_not.1 fun e => h10 ⟨i, hi, e⟩
            refine tri_reg mixed hcx ?_ _ _
            refine mv rfl ?_
            refine ca rfl (h := mat_Shape h0 hl12 hm) (hn := ?_)
            refine mv rfl ?_
            refine ex rfl rfl ?_
            refine ex rfl rfl ?_
            refine ex rfl rfl ?_
            refine asg rfl ?_
            refine asg rfl ?_
            refine asg rfl ?_
            refine ⟨by kernel_rfl, ?_⟩
            refine nx (sl 10 rfl sn) en ?_
            refine tri_seq ?_
            refine tri_reg mixed hcx ?_ _ _
            refine mv rfl ?_
            refine asg rfl ?_
            refine ⟨by kernel_rfl, ?_⟩
            refine nx (sl 4 rfl sn) en ?_
            refine tri_ret ?_
            repeat (first | refine pn_thenr ?_ | refine pn_blkr ?_)
            exact ret1 hcx rfl (rv_tmp rfl) (ci (hR.ok h8 (by omega) h10).symm) en
  · refine tri_reg mixed hcx ?_ _ _
    refine mv rfl ?_
    refine ln slZss rfl ?_
    refine cgt rfl rfl (decide_eq_false (by omega)) ?_
    refine mv rfl ?_
    refine mv rfl ?_ (hg := gd1)
    refine mv rfl ?_ (hg := gd1)
    refine j_off rfl rfl rfl rfl ?_
    refine j_off rfl rfl rfl rfl ?_
    refine j_off rfl rfl rfl rfl ?_
    refine pk rfl rfl ?_ (hg := gd1)
    refine pk rfl rfl ?_
    refine asg rfl ?_
    refine ⟨by kernel_rfl, ?_⟩
    refine nx (sl 0 rfl (sl 5 rfl sn)) en ?_
    refine tri_seq ?_
    refine tri_seq ?_
    refine tri_reg mixed hcx ?_ _ _
    refine mv rfl ?_
    refine ln slZss rfl ?_
    refine mv rfl ?_
    refine ⟨by kernel_rfl, ?_⟩
    refine nx (sl 0 rfl (sl 5 rfl (sl 22 rfl (sl 23 rfl (sl 24 rfl sn))))) en ?_
    refine tri_block ?_
    refine tri_loop (ι := Nat × Bool) (fun (i, p) => [(0, T.l (cL (cZi k)) b), (5, T.c (.bool p)), (22, T.l (cL (cZi k)) b), (23, T.c (.int .i64 (b.length : Int))), (24, T.c (.int .i64 (i : Int)))]) (fun (i, p) => []) (fun (i, p) => b.length - i) (fun (i, p) => (i ≤ b.length) ∧ (p = true ↔ BigU b false i)) (0, false) ⟨Nat.zero_le _, bigU_zero ⟨fun h => (by cases h), fun h => by rcases h with h | h; omega; cases h.1⟩⟩ (sl 0 rfl (sl 5 rfl (sl 22 rfl (sl 23 rfl (sl 24 rfl sn))))) en ?_
    rintro ⟨i, p⟩ ⟨hi, hp⟩
    refine tri_sub (sl 0 rfl (sl 5 rfl (sl 22 rfl (sl 23 rfl (sl 24 rfl sn))))) en ?_
    refine tri_seq ?_
    refine tri_reg mixed hcx ?_ _ _
    refine clt rfl rfl rfl ?_
    refine ⟨by kernel_rfl, ?_⟩
    refine nx (sl 0 rfl (sl 5 rfl (sl 22 rfl (sl 23 rfl (sl 24 rfl (sl 25 rfl sn)))))) en ?_
    refine tri_seq ?_
    refine tri_if rfl (fun hc => ?_) (fun hc => ?_)
    · have hmi : (b.getD i (cL (cZi k)).dflt).length ≤ 1048576 := hrr i (by omega)
      refine tri_skip ?_
      refine nx (sl 0 rfl (sl 5 rfl (sl 22 rfl (sl 23 rfl (sl 24 rfl sn))))) en ?_
      refine tri_seq ?_
      refine tri_block ?_
      refine tri_seq ?_
      refine tri_reg mixed hcx ?_ _ _
      refine ix rfl rfl slZss ⟨rfl, by omega⟩ ?_
      refine lf rfl tyZs ?_
      refine asg rfl ?_
      refine ⟨by kernel_rfl, ?_⟩
      refine nx (sl 0 rfl (sl 5 rfl (sl 7 rfl (sl 22 rfl (sl 23 rfl (sl 24 rfl sn)))))) en ?_
      rcases Bool.eq_false_or_eq_true p with h5 | h5; rotate_left; rcases Nat.lt_or_ge 12 (b.getD i (cL (cZi k)).dflt).length with h6 | h6; rotate_left; rotate_left
      · subst h5
        refine tri_reg mixed hcx ?_ _ _
        refine mv rfl ?_
        refine mv rfl ?_
        refine j_off rfl rfl rfl rfl ?_
        refine j_off rfl rfl rfl rfl ?_
        refine j_off rfl rfl rfl rfl ?_
        refine pk rfl rfl ?_
        refine asg rfl ?_
        refine ⟨by kernel_rfl, ?_⟩
        refine pn_blk ?_
        refine nx (sl 0 rfl (sl 5 rfl (sl 22 rfl (sl 23 rfl (sl 24 rfl sn))))) en ?_
        refine tri_reg mixed hcx ?_ _ _
        refine ad (((i + 1 : Nat) : Int)) rfl rfl rfl (by omega) ?_
        refine mv rfl ?_
        refine ⟨by kernel_rfl, ?_⟩
        exact pn_back (i + 1, true) (by dsimp only; omega) ⟨by omega, bigU_t (hp.1 rfl)⟩ (sl 0 rfl (sl 5 rfl (sl 22 rfl (sl 23 rfl (sl 24 rfl sn))))) en
      · subst h5
        refine tri_reg mixed hcx ?_ _ _
        refine mv rfl ?_
        refine mv rfl ?_
        refine mv rfl ?_ (hg := gd1)
        refine ln slZs rfl ?_ (hg := gd1)
        refine cgt rfl rfl (decide_eq_true (by omega)) ?_ (hg := gd1)
        refine pk rfl rfl ?_
        refine asg rfl ?_
        refine ⟨by kernel_rfl, ?_⟩
        refine pn_blk ?_
        refine nx (sl 0 rfl (sl 5 rfl (sl 22 rfl (sl 23 rfl (sl 24 rfl sn))))) en ?_
        refine tri_reg mixed hcx ?_ _ _
        refine ad (((i + 1 : Nat) : Int)) rfl rfl rfl (by omega) ?_
        refine mv rfl ?_
        refine ⟨by kernel_rfl, ?_⟩
        exact pn_back (i + 1, true) (by dsimp only; omega) ⟨by omega, bigU_n h6⟩ (sl 0 rfl (sl 5 rfl (sl 22 rfl (sl 23 rfl (sl 24 rfl sn))))) en
      · subst h5
        refine tri_reg mixed hcx ?_ _ _
        refine mv rfl ?_
        refine mv rfl ?_
        refine mv rfl ?_ (hg := gd1)
        refine ln slZs rfl ?_ (hg := gd1)
        refine cgt rfl rfl (decide_eq_false (by omega)) ?_ (hg := gd1)
        refine pk rfl rfl ?_
        refine asg rfl ?_
        refine ⟨by kernel_rfl, ?_⟩
        refine pn_blk ?_
        refine nx (sl 0 rfl (sl 5 rfl (sl 22 rfl (sl 23 rfl (sl 24 rfl sn))))) en ?_
        refine tri_reg mixed hcx ?_ _ _
        refine ad (((i + 1 : Nat) : Int)) rfl rfl rfl (by omega) ?_
        refine mv rfl ?_
        refine ⟨by kernel_rfl, ?_⟩
        exact pn_back (i + 1, false) (by dsimp only; omega) ⟨by omega, bigU_f (fun h => by have := hp.2 h; cases this) (Nat.not_lt.2 h6)⟩ (sl 0 rfl (sl 5 rfl (sl 22 rfl (sl 23 rfl (sl 24 rfl sn))))) en
    · refine tri_exit ?_
      repeat (first | refine pn_then ?_ | refine pn_oth (by decide) ?_)
      refine pn_ex ?_
      have hin : i = b.length := by omega
      rw [hin] at hp
      refine nx (sl 0 rfl (sl 5 rfl sn)) en ?_
      refine tri_seq ?_
      refine tri_seq ?_
      refine tri_reg mixed hcx ?_ _ _
      refine mv rfl ?_
      refine ⟨by kernel_rfl, ?_⟩
      refine nx (sl 0 rfl (sl 35 rfl sn)) en ?_
      refine tri_cond rfl (fun h7 => ?_) (fun h7 => ?_)
      · have h8 : BigB b false := hp.1 h7
        refine tri_seq ?_
        refine tri_reg mixed hcx ?_ _ _
        refine asg rfl ?_
        refine ⟨by kernel_rfl, ?_⟩
        refine nx (sl 4 rfl sn) en ?_
        refine tri_ret ?_
        repeat (first | refine pn_thenr ?_ | refine pn_blkr ?_)
        exact ret1 hcx rfl (rv_tmp rfl) (ci (hR.big h8).symm) en
      · have h8 : ¬ BigB b false := fun h => by have := hp.2 h; rw [h7] at this; cases this
        have hl12 : b.length ≤ 12 := Nat.not_lt.1 fun h => h8 (.inl h)
        have hr12 : ∀ i, i < b.length → (b.getD i []).length ≤ 12 := fun i hi => Nat.not_lt.1 fun h => h8 (.inr (.inr ⟨i, hi, h⟩))
        refine tri_skip ?_
        refine nx (sl 0 rfl sn) en ?_
        refine tri_seq ?_
        refine tri_seq ?_
        refine tri_reg mixed hcx ?_ _ _
        refine mv rfl ?_
        refine ln slZss rfl ?_
        refine ceq rfl rfl rfl ?_
        refine ⟨by kernel_rfl, ?_⟩
        refine nx (sl 0 rfl (sl 38 rfl sn)) en ?_
        refine tri_if rfl (fun h9 => ?_) (fun h9 => ?_)
        · refine tri_seq ?_
          refine tri_reg mixed hcx ?_ _ _
          refine asg rfl ?_
          refine ⟨by kernel_rfl, ?_⟩
          refine nx (sl 4 rfl sn) en ?_
          refine tri_ret ?_
          repeat (first | refine pn_thenr ?_ | refine pn_blkr ?_)
          exact ret1 hcx rfl (rv_tmp rfl) (ci (hR.nil h8 (by omega)).symm) en
        · have h0 : 0 < b.length := by omega
          refine tri_skip ?_
          refine nx (sl 0 rfl sn) en ?_
          refine tri_seq ?_
          by_cases h10 : BadB b
          · refine tri_reg mixed hcx ?_ _ _
            refine mv rfl ?_
            refine ca rfl (h := mat_Shape_bad h0 hl12 h10 hr12) (hn := ?_)
            refine mv rfl ?_
            refine ex rfl rfl ?_
            refine ex rfl rfl ?_
            refine ex rfl rfl ?_
            refine asg rfl ?_
            refine asg rfl ?_
            refine asg rfl ?_
            refine ⟨by kernel_rfl, ?_⟩
            refine nx (sl 10 rfl sn) en ?_
            refine tri_seq ?_
            refine tri_reg mixed hcx ?_ _ _
            refine mv rfl ?_
            refine asg rfl ?_
            refine ⟨by kernel_rfl, ?_⟩
            refine nx (sl 4 rfl sn) en ?_
            refine tri_ret ?_
            repeat (first | refine pn_thenr ?_ | refine pn_blkr ?_)
            exact ret1 hcx rfl (rv_tmp rfl) (ci (hR.bad h8 (by omega) h10).symm) en
          · have hm : ∀ i, i < b.length → (b.getD i []).length = (b.getD 0 []).length := fun i hi => Decidable.not_not.1 fun e => h10 ⟨i, hi, e⟩
            refine tri_reg mixed hcx ?_ _ _
            refine mv rfl ?_
            refine ca rfl (h := mat_Shape h0 hl12 hm) (hn := ?_)
            refine mv rfl ?_
            refine ex rfl rfl ?_
            refine ex rfl rfl ?_
            refine ex rfl rfl ?_
            refine asg rfl ?_
            refine asg rfl ?_
            refine asg rfl ?_
            refine ⟨by kernel_rfl, ?_⟩
            refine nx (sl 10 rfl sn) en ?_
            refine tri_seq ?_
            refine tri_reg mixed hcx ?_ _ _
            refine mv rfl ?_
            refine asg rfl ?_
            refine ⟨by kernel_rfl, ?_⟩
            refine nx (sl 4 rfl sn) en ?_
            refine tri_ret ?_
            repeat (first | refine pn_thenr ?_ | refine pn_blkr ?_)
            exact ret1 hcx rfl (rv_tmp rfl) (ci (hR.ok h8 (by omega) h10).symm) en
end Go.Proofs.Ytbihfnjmdpbkgaa.V
