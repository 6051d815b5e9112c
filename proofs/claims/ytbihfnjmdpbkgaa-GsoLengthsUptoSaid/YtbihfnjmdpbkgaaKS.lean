/- What a basis is; sums of rows. -/
import Derived.Test.YtbihfnjmdpbkgaaGe
set_option linter.unusedVariables false
set_option linter.unusedSimpArgs false
set_option maxRecDepth 100000
namespace Go.Proofs.Ytbihfnjmdpbkgaa.V
open Go.RowKit Mt Nml
theorem r05_check_err_t {b : List (List Int)} {k : Nat} {r : Int} (hk : k ≤ 1048576) (hrr : ∀ i, i < b.length → (b.getD i []).length ≤ 1048576) (hbl : b.length ≤ 1048576) (hR : ShR b true r) (hr : r ≠ 0) : Fn Try.prog 78 [T.l (cL (cZi k)) b, T.c (.bool true)] [] [] [] (T.tup [T.st [T.c (.slice none 0 0), T.c (.slice none 0 0)], T.c (.int .i64 r)]) := by
  refine fn_of Try.func78 rfl (by show 2 ≤ 25; decide) fun cx hcx => ?_
  refine tri_sub (sl 0 rfl (sl 1 rfl sn)) en ?_
  refine tri_seq ?_
  refine tri_reg mixed hcx ?_ _ _
  refine nw 10 zeR ?_
  refine asg rfl ?_
  refine ⟨by kernel_rfl, ?_⟩
  refine nx (sl 0 rfl (sl 1 rfl (sl 4 rfl sn))) (el 10 rfl en) ?_
  refine tri_seq ?_
  refine tri_reg mixed hcx ?_ _ _
  refine mv rfl ?_
  refine mv rfl ?_
  refine ca rfl (h := r05_shape_t hk hbl hrr hR) (hn := ?_)
  refine asg rfl ?_
  refine ⟨by kernel_rfl, ?_⟩
  refine nx (sl 0 rfl (sl 4 rfl (sl 6 rfl sn))) (el 10 rfl en) ?_
  refine tri_seq ?_
  refine tri_seq ?_
  refine tri_reg mixed hcx ?_ _ _
  refine mv rfl ?_
  refine cne rfl rfl (decide_eq_true hr) ?_
  refine ⟨by kernel_rfl, ?_⟩
  refine nx (sl 0 rfl (sl 4 rfl (sl 6 rfl (sl 13 rfl sn)))) (el 10 rfl en) ?_
  refine tri_true rfl rfl ?_
  refine tri_seq ?_
  refine tri_reg mixed hcx ?_ _ _
  refine bu stR rfl ?_
  refine mv rfl ?_
  refine st rfl rfl rfl tyR rfl ?_
  refine asg rfl ?_
  refine ⟨by kernel_rfl, ?_⟩
  refine nx (sl 4 rfl (sl 5 rfl sn)) (el 10 rfl en) ?_
  refine tri_ret ?_
  repeat (first | refine pn_thenr ?_ | refine pn_blkr ?_)
  exact ret2 hcx rfl (rv_cell (c' := cx) (n := 0) rfl rfl tyR rfl) (rv_tmp rfl) (.refl _) en

theorem r05_check_no_t {b : List (List Int)} {k m S K : Nat} (hno : ¬ Ok b b.length) (h0 : 0 < b.length) (hb : b.length ≤ 12) (hm : ∀ i, i < b.length → (b.getD i []).length = m) (hk : k ≤ 1048576) (hm12 : m ≤ 12) (hR : ShR b true 0) (hS : ∀ i j, i < b.length → j ≤ i → zl (dotU (b.getD i []) (b.getD j []) (b.getD i []).length) ≤ S) (h1S : 1 ≤ S) (hK1 : bd S 12 ≤ K) (hK2 : K ≤ 268435456) : Fn Try.prog 78 [T.l (cL (cZi k)) b, T.c (.bool true)] [] [] [] (T.tup [T.st [T.c (.slice none 0 0), T.c (.slice none 0 0)], T.c (.int .i64 50)]) := by
  refine fn_of Try.func78 rfl (by show 2 ≤ 25; decide) fun cx hcx => ?_
  refine tri_sub (sl 0 rfl (sl 1 rfl sn)) en ?_
  have hrr : ∀ i, i < b.length → (b.getD i []).length ≤ 1048576 := fun i hi => by rw [hm i hi]; omega
  have hmk : m * (k + k + 1) ≤ 17179869184 := Nat.le_trans (Nat.mul_le_mul hm12 (show k + k + 1 ≤ 2097153 by omega)) (by decide)
  have hQ : ∀ i, i < b.length → Ok b i → ∀ e j, e ≤ j → j ≤ i → QB (Mr (gR b) e i j) K := fun i hi ho e j h1 h2 => QB.mono (mr_QB hS h1S ho hi h1 h2) (Nat.le_trans (bd_mono (by omega)) hK1)
  have hM : ∀ i j, j < i → i < b.length → Ok b i → QB (mR b i j) K := fun i j hj hi ho => QB.mono (mR_QB hS ho hi hj) (Nat.le_trans (bd_mono (by omega)) hK1)
  refine tri_seq ?_
  refine tri_reg mixed hcx ?_ _ _
  refine nw 10 zeR ?_
  refine asg rfl ?_
  refine ⟨by kernel_rfl, ?_⟩
  refine nx (sl 0 rfl (sl 1 rfl (sl 4 rfl sn))) (el 10 rfl en) ?_
  refine tri_seq ?_
  refine tri_reg mixed hcx ?_ _ _
  refine mv rfl ?_
  refine mv rfl ?_
  refine ca rfl (h := r05_shape_t hk (by omega) hrr hR) (hn := ?_)
  refine asg rfl ?_
  refine ⟨by kernel_rfl, ?_⟩
  refine nx (sl 0 rfl (sl 4 rfl (sl 6 rfl sn))) (el 10 rfl en) ?_
  refine tri_seq ?_
  refine tri_seq ?_
  refine tri_reg mixed hcx ?_ _ _
  refine mv rfl ?_
  refine cne rfl rfl (decide_eq_false (by omega)) ?_
  refine ⟨by kernel_rfl, ?_⟩
  refine nx (sl 0 rfl (sl 4 rfl (sl 6 rfl (sl 13 rfl sn)))) (el 10 rfl en) ?_
  refine tri_false rfl rfl ?_
  refine tri_skip ?_
  refine nx (sl 0 rfl (sl 4 rfl sn)) (el 10 rfl en) ?_
  refine tri_seq ?_
  refine tri_reg mixed hcx ?_ _ _
  refine mv rfl ?_
  refine ca rfl (h := r05_Make_no hno (by omega) hm (by omega) hk hmk hQ hM hK2) (hn := ?_)
  refine mv rfl ?_
  refine ex rfl rfl ?_
  refine ex rfl rfl ?_
  refine nw 415 zeR ?_
  refine st rfl rfl rfl tyR rfl ?_
  refine asg rfl ?_
  refine ⟨by kernel_rfl, ?_⟩
  refine nx (sl 4 rfl (sl 7 rfl (sl 8 rfl sn))) (el 10 rfl (el 415 rfl en)) ?_
  refine tri_seq ?_
  refine tri_seq ?_
  refine tri_reg mixed hcx ?_ _ _
  refine mv rfl ?_
  refine nt rfl _ rfl ?_
  refine ⟨by kernel_rfl, ?_⟩
  refine nx (sl 4 rfl (sl 7 rfl (sl 22 rfl sn))) (el 10 rfl (el 415 rfl en)) ?_
  refine tri_true rfl rfl ?_
  refine tri_seq ?_
  refine tri_reg mixed hcx ?_ _ _
  refine bu stR rfl ?_
  refine st rfl rfl rfl tyR rfl ?_
  refine asg rfl ?_
  refine ⟨by kernel_rfl, ?_⟩
  refine nx (sl 4 rfl (sl 5 rfl sn)) (el 10 rfl (el 415 rfl en)) ?_
  refine tri_ret ?_
  repeat (first | refine pn_thenr ?_ | refine pn_blkr ?_)
  exact ret2 hcx rfl (rv_cell (c' := cx) (n := 0) rfl rfl tyR rfl) (rv_tmp rfl) (.refl _) en

theorem r05_check_ok_t {b : List (List Int)} {k m S K : Nat} (hok : Ok b b.length) (h0 : 0 < b.length) (hb : b.length ≤ 12) (hm : ∀ i, i < b.length → (b.getD i []).length = m) (hk : k ≤ 1048576) (hm12 : m ≤ 12) (hR : ShR b true 0) (hS : ∀ i j, i < b.length → j ≤ i → zl (dotU (b.getD i []) (b.getD j []) (b.getD i []).length) ≤ S) (h1S : 1 ≤ S) (hK1 : bd S 12 ≤ K) (hK2 : K ≤ 268435456) : Fn Try.prog 78 [T.l (cL (cZi k)) b, T.c (.bool true)] [] [] [] (T.tup [T.st [T.l (cL (cQ K)) (ML b b.length), T.l (cQ K) (SL b b.length)], T.c (.int .i64 0)]) := by
  refine fn_of Try.func78 rfl (by show 2 ≤ 25; decide) fun cx hcx => ?_
  refine tri_sub (sl 0 rfl (sl 1 rfl sn)) en ?_
  have hrr : ∀ i, i < b.length → (b.getD i []).length ≤ 1048576 := fun i hi => by rw [hm i hi]; omega
  have hmk : m * (k + k + 1) ≤ 17179869184 := Nat.le_trans (Nat.mul_le_mul hm12 (show k + k + 1 ≤ 2097153 by omega)) (by decide)
  have hQ : ∀ i, i < b.length → Ok b i → ∀ e j, e ≤ j → j ≤ i → QB (Mr (gR b) e i j) K := fun i hi ho e j h1 h2 => QB.mono (mr_QB hS h1S ho hi h1 h2) (Nat.le_trans (bd_mono (by omega)) hK1)
  have hM : ∀ i j, j < i → i < b.length → Ok b i → QB (mR b i j) K := fun i j hj hi ho => QB.mono (mR_QB hS ho hi hj) (Nat.le_trans (bd_mono (by omega)) hK1)
  refine tri_seq ?_
  refine tri_reg mixed hcx ?_ _ _
  refine nw 10 zeR ?_
  refine asg rfl ?_
  refine ⟨by kernel_rfl, ?_⟩
  refine nx (sl 0 rfl (sl 1 rfl (sl 4 rfl sn))) (el 10 rfl en) ?_
  refine tri_seq ?_
  refine tri_reg mixed hcx ?_ _ _
  refine mv rfl ?_
  refine mv rfl ?_
  refine ca rfl (h := r05_shape_t hk (by omega) hrr hR) (hn := ?_)
  refine asg rfl ?_
  refine ⟨by kernel_rfl, ?_⟩
  refine nx (sl 0 rfl (sl 4 rfl (sl 6 rfl sn))) (el 10 rfl en) ?_
  refine tri_seq ?_
  refine tri_seq ?_
  refine tri_reg mixed hcx ?_ _ _
  refine mv rfl ?_
  refine cne rfl rfl (decide_eq_false (by omega)) ?_
  refine ⟨by kernel_rfl, ?_⟩
  refine nx (sl 0 rfl (sl 4 rfl (sl 6 rfl (sl 13 rfl sn)))) (el 10 rfl en) ?_
  refine tri_false rfl rfl ?_
  refine tri_skip ?_
  refine nx (sl 0 rfl (sl 4 rfl sn)) (el 10 rfl en) ?_
  refine tri_seq ?_
  refine tri_reg mixed hcx ?_ _ _
  refine mv rfl ?_
  refine ca rfl (h := r05_Make hok (by omega) hm (by omega) hk hmk hQ hM hK2) (hn := ?_)
  refine mv rfl ?_
  refine ex rfl rfl ?_
  refine ex rfl rfl ?_
  refine nw 415 zeR ?_
  refine st rfl rfl rfl tyR rfl ?_
  refine asg rfl ?_
  refine ⟨by kernel_rfl, ?_⟩
  refine nx (sl 4 rfl (sl 7 rfl (sl 8 rfl sn))) (el 10 rfl (el 415 rfl en)) ?_
  refine tri_seq ?_
  refine tri_seq ?_
  refine tri_reg mixed hcx ?_ _ _
  refine mv rfl ?_
  refine nt rfl _ rfl ?_
  refine ⟨by kernel_rfl, ?_⟩
  refine nx (sl 4 rfl (sl 7 rfl (sl 22 rfl sn))) (el 10 rfl (el 415 rfl en)) ?_
  refine tri_false rfl rfl ?_
  refine tri_skip ?_
  refine nx (sl 4 rfl (sl 7 rfl sn)) (el 10 rfl (el 415 rfl en)) ?_
  refine tri_seq ?_
  refine tri_reg mixed hcx ?_ _ _
  refine ld rfl rfl tyR rfl ?_
  refine st rfl rfl rfl tyR rfl ?_
  refine asg rfl ?_
  refine ⟨by kernel_rfl, ?_⟩
  refine nx (sl 4 rfl (sl 5 rfl sn)) (el 10 rfl (el 415 rfl en)) ?_
  refine tri_ret ?_
  repeat (first | refine pn_thenr ?_ | refine pn_blkr ?_)
  exact ret2 hcx rfl (rv_cell (c' := cx) (n := 0) rfl rfl tyR rfl) (rv_tmp rfl) (.refl _) en

theorem r05_check_err_f {b : List (List Int)} {k : Nat} {r : Int} (hk : k ≤ 1048576) (hrr : ∀ i, i < b.length → (b.getD i []).length ≤ 1048576) (hbl : b.length ≤ 1048576) (hR : ShR b false r) (hr : r ≠ 0) : Fn Try.prog 78 [T.l (cL (cZi k)) b, T.c (.bool false)] [] [] [] (T.tup [T.st [T.c (.slice none 0 0), T.c (.slice none 0 0)], T.c (.int .i64 r)]) := by
  refine fn_of Try.func78 rfl (by show 2 ≤ 25; decide) fun cx hcx => ?_
  refine tri_sub (sl 0 rfl (sl 1 rfl sn)) en ?_
  refine tri_seq ?_
  refine tri_reg mixed hcx ?_ _ _
  refine nw 10 zeR ?_
  refine asg rfl ?_
  refine ⟨by kernel_rfl, ?_⟩
  refine nx (sl 0 rfl (sl 1 rfl (sl 4 rfl sn))) (el 10 rfl en) ?_
  refine tri_seq ?_
  refine tri_reg mixed hcx ?_ _ _
  refine mv rfl ?_
  refine mv rfl ?_
  refine ca rfl (h := r05_shape_f hk hbl hrr hR) (hn := ?_)
  refine asg rfl ?_
  refine ⟨by kernel_rfl, ?_⟩
  refine nx (sl 0 rfl (sl 4 rfl (sl 6 rfl sn))) (el 10 rfl en) ?_
  refine tri_seq ?_
  refine tri_seq ?_
  refine tri_reg mixed hcx ?_ _ _
  refine mv rfl ?_
  refine cne rfl rfl (decide_eq_true hr) ?_
  refine ⟨by kernel_rfl, ?_⟩
  refine nx (sl 0 rfl (sl 4 rfl (sl 6 rfl (sl 13 rfl sn)))) (el 10 rfl en) ?_
  refine tri_true rfl rfl ?_
  refine tri_seq ?_
  refine tri_reg mixed hcx ?_ _ _
  refine bu stR rfl ?_
  refine mv rfl ?_
  refine st rfl rfl rfl tyR rfl ?_
  refine asg rfl ?_
  refine ⟨by kernel_rfl, ?_⟩
  refine nx (sl 4 rfl (sl 5 rfl sn)) (el 10 rfl en) ?_
  refine tri_ret ?_
  repeat (first | refine pn_thenr ?_ | refine pn_blkr ?_)
  exact ret2 hcx rfl (rv_cell (c' := cx) (n := 0) rfl rfl tyR rfl) (rv_tmp rfl) (.refl _) en

theorem r05_check_no_f {b : List (List Int)} {k m S K : Nat} (hno : ¬ Ok b b.length) (h0 : 0 < b.length) (hb : b.length ≤ 12) (hm : ∀ i, i < b.length → (b.getD i []).length = m) (hk : k ≤ 1048576) (hm12 : m ≤ 12) (hR : ShR b false 0) (hS : ∀ i j, i < b.length → j ≤ i → zl (dotU (b.getD i []) (b.getD j []) (b.getD i []).length) ≤ S) (h1S : 1 ≤ S) (hK1 : bd S 12 ≤ K) (hK2 : K ≤ 268435456) : Fn Try.prog 78 [T.l (cL (cZi k)) b, T.c (.bool false)] [] [] [] (T.tup [T.st [T.c (.slice none 0 0), T.c (.slice none 0 0)], T.c (.int .i64 50)]) := by
  refine fn_of Try.func78 rfl (by show 2 ≤ 25; decide) fun cx hcx => ?_
  refine tri_sub (sl 0 rfl (sl 1 rfl sn)) en ?_
  have hrr : ∀ i, i < b.length → (b.getD i []).length ≤ 1048576 := fun i hi => by rw [hm i hi]; omega
  have hmk : m * (k + k + 1) ≤ 17179869184 := Nat.le_trans (Nat.mul_le_mul hm12 (show k + k + 1 ≤ 2097153 by omega)) (by decide)
  have hQ : ∀ i, i < b.length → Ok b i → ∀ e j, e ≤ j → j ≤ i → QB (Mr (gR b) e i j) K := fun i hi ho e j h1 h2 => QB.mono (mr_QB hS h1S ho hi h1 h2) (Nat.le_trans (bd_mono (by omega)) hK1)
  have hM : ∀ i j, j < i → i < b.length → Ok b i → QB (mR b i j) K := fun i j hj hi ho => QB.mono (mR_QB hS ho hi hj) (Nat.le_trans (bd_mono (by omega)) hK1)
  refine tri_seq ?_
  refine tri_reg mixed hcx ?_ _ _
  refine nw 10 zeR ?_
  refine asg rfl ?_
  refine ⟨by kernel_rfl, ?_⟩
  refine nx (sl 0 rfl (sl 1 rfl (sl 4 rfl sn))) (el 10 rfl en) ?_
  refine tri_seq ?_
  refine tri_reg mixed hcx ?_ _ _
  refine mv rfl ?_
  refine mv rfl ?_
  refine ca rfl (h := r05_shape_f hk (by omega) hrr hR) (hn := ?_)
  refine asg rfl ?_
  refine ⟨by kernel_rfl, ?_⟩
  refine nx (sl 0 rfl (sl 4 rfl (sl 6 rfl sn))) (el 10 rfl en) ?_
  refine tri_seq ?_
  refine tri_seq ?_
  refine tri_reg mixed hcx ?_ _ _
  refine mv rfl ?_
  refine cne rfl rfl (decide_eq_false (by omega)) ?_
  refine ⟨by kernel_rfl, ?_⟩
  refine nx (sl 0 rfl (sl 4 rfl (sl 6 rfl (sl 13 rfl sn)))) (el 10 rfl en) ?_
  refine tri_false rfl rfl ?_
  refine tri_skip ?_
  refine nx (sl 0 rfl (sl 4 rfl sn)) (el 10 rfl en) ?_
  refine tri_seq ?_
  refine tri_reg mixed hcx ?_ _ _
  refine mv rfl ?_
  refine ca rfl (h := r05_Make_no hno (by omega) hm (by omega) hk hmk hQ hM hK2) (hn := ?_)
  refine mv rfl ?_
  refine ex rfl rfl ?_
  refine ex rfl rfl ?_
  refine nw 415 zeR ?_
  refine st rfl rfl rfl tyR rfl ?_
  refine asg rfl ?_
  refine ⟨by kernel_rfl, ?_⟩
  refine nx (sl 4 rfl (sl 7 rfl (sl 8 rfl sn))) (el 10 rfl (el 415 rfl en)) ?_
  refine tri_seq ?_
  refine tri_seq ?_
  refine tri_reg mixed hcx ?_ _ _
  refine mv rfl ?_
  refine nt rfl _ rfl ?_
  refine ⟨by kernel_rfl, ?_⟩
  refine nx (sl 4 rfl (sl 7 rfl (sl 22 rfl sn))) (el 10 rfl (el 415 rfl en)) ?_
  refine tri_true rfl rfl ?_
  refine tri_seq ?_
  refine tri_reg mixed hcx ?_ _ _
  refine bu stR rfl ?_
  refine st rfl rfl rfl tyR rfl ?_
  refine asg rfl ?_
  refine ⟨by kernel_rfl, ?_⟩
  refine nx (sl 4 rfl (sl 5 rfl sn)) (el 10 rfl (el 415 rfl en)) ?_
  refine tri_ret ?_
  repeat (first | refine pn_thenr ?_ | refine pn_blkr ?_)
  exact ret2 hcx rfl (rv_cell (c' := cx) (n := 0) rfl rfl tyR rfl) (rv_tmp rfl) (.refl _) en

theorem r05_check_ok_f {b : List (List Int)} {k m S K : Nat} (hok : Ok b b.length) (h0 : 0 < b.length) (hb : b.length ≤ 12) (hm : ∀ i, i < b.length → (b.getD i []).length = m) (hk : k ≤ 1048576) (hm12 : m ≤ 12) (hR : ShR b false 0) (hS : ∀ i j, i < b.length → j ≤ i → zl (dotU (b.getD i []) (b.getD j []) (b.getD i []).length) ≤ S) (h1S : 1 ≤ S) (hK1 : bd S 12 ≤ K) (hK2 : K ≤ 268435456) : Fn Try.prog 78 [T.l (cL (cZi k)) b, T.c (.bool false)] [] [] [] (T.tup [T.st [T.l (cL (cQ K)) (ML b b.length), T.l (cQ K) (SL b b.length)], T.c (.int .i64 0)]) := by
  refine fn_of Try.func78 rfl (by show 2 ≤ 25; decide) fun cx hcx => ?_
  refine tri_sub (sl 0 rfl (sl 1 rfl sn)) en ?_
  have hrr : ∀ i, i < b.length → (b.getD i []).length ≤ 1048576 := fun i hi => by rw [hm i hi]; omega
  have hmk : m * (k + k + 1) ≤ 17179869184 := Nat.le_trans (Nat.mul_le_mul hm12 (show k + k + 1 ≤ 2097153 by omega)) (by decide)
  have hQ : ∀ i, i < b.length → Ok b i → ∀ e j, e ≤ j → j ≤ i → QB (Mr (gR b) e i j) K := fun i hi ho e j h1 h2 => QB.mono (mr_QB hS h1S ho hi h1 h2) (Nat.le_trans (bd_mono (by omega)) hK1)
  have hM : ∀ i j, j < i → i < b.length → Ok b i → QB (mR b i j) K := fun i j hj hi ho => QB.mono (mR_QB hS ho hi hj) (Nat.le_trans (bd_mono (by omega)) hK1)
  refine tri_seq ?_
  refine tri_reg mixed hcx ?_ _ _
  refine nw 10 zeR ?_
  refine asg rfl ?_
  refine ⟨by kernel_rfl, ?_⟩
  refine nx (sl 0 rfl (sl 1 rfl (sl 4 rfl sn))) (el 10 rfl en) ?_
  refine tri_seq ?_
  refine tri_reg mixed hcx ?_ _ _
  refine mv rfl ?_
  refine mv rfl ?_
  refine ca rfl (h := r05_shape_f hk (by omega) hrr hR) (hn := ?_)
  refine asg rfl ?_
  refine ⟨by kernel_rfl, ?_⟩
  refine nx (sl 0 rfl (sl 4 rfl (sl 6 rfl sn))) (el 10 rfl en) ?_
  refine tri_seq ?_
  refine tri_seq ?_
  refine tri_reg mixed hcx ?_ _ _
  refine mv rfl ?_
  refine cne rfl rfl (decide_eq_false (by omega)) ?_
  refine ⟨by kernel_rfl, ?_⟩
  refine nx (sl 0 rfl (sl 4 rfl (sl 6 rfl (sl 13 rfl sn)))) (el 10 rfl en) ?_
  refine tri_false rfl rfl ?_
  refine tri_skip ?_
  refine nx (sl 0 rfl (sl 4 rfl sn)) (el 10 rfl en) ?_
  refine tri_seq ?_
  refine tri_reg mixed hcx ?_ _ _
  refine mv rfl ?_
  refine ca rfl (h := r05_Make hok (by omega) hm (by omega) hk hmk hQ hM hK2) (hn := ?_)
  refine mv rfl ?_
  refine ex rfl rfl ?_
  refine ex rfl rfl ?_
  refine nw 415 zeR ?_
  refine st rfl rfl rfl tyR rfl ?_
  refine asg rfl ?_
  refine ⟨by kernel_rfl, ?_⟩
  refine nx (sl 4 rfl (sl 7 rfl (sl 8 rfl sn))) (el 10 rfl (el 415 rfl en)) ?_
  refine tri_seq ?_
  refine tri_seq ?_
  refine tri_reg mixed hcx ?_ _ _
  refine mv rfl ?_
  refine nt rfl _ rfl ?_
  refine ⟨by kernel_rfl, ?_⟩
  refine nx (sl 4 rfl (sl 7 rfl (sl 22 rfl sn))) (el 10 rfl (el 415 rfl en)) ?_
  refine tri_false rfl rfl ?_
  refine tri_skip ?_
  refine nx (sl 4 rfl (sl 7 rfl sn)) (el 10 rfl (el 415 rfl en)) ?_
  refine tri_seq ?_
  refine tri_reg mixed hcx ?_ _ _
  refine ld rfl rfl tyR rfl ?_
  refine st rfl rfl rfl tyR rfl ?_
  refine asg rfl ?_
  refine ⟨by kernel_rfl, ?_⟩
  refine nx (sl 4 rfl (sl 5 rfl sn)) (el 10 rfl (el 415 rfl en)) ?_
  refine tri_ret ?_
  repeat (first | refine pn_thenr ?_ | refine pn_blkr ?_)
  exact ret2 hcx rfl (rv_cell (c' := cx) (n := 0) rfl rfl tyR rfl) (rv_tmp rfl) (.refl _) en

theorem r05_Valid_err {b : List (List Int)} {k : Nat} {r : Int} (hk : k ≤ 1048576) (hrr : ∀ i, i < b.length → (b.getD i []).length ≤ 1048576) (hbl : b.length ≤ 1048576) (hR : ShR b true r) (hr : r ≠ 0) : Fn Try.prog 20 [T.l (cL (cZi k)) b] [] [] [] (T.c (.int .i64 r)) := by
  refine fn_of Try.func20 rfl (by show 1 ≤ 11; decide) fun cx hcx => ?_
  refine tri_sub (sl 0 rfl sn) en ?_
  refine tri_seq ?_
  refine tri_reg mixed hcx ?_ _ _
  refine asg rfl ?_
  refine ⟨by kernel_rfl, ?_⟩
  refine nx (sl 0 rfl sn) en ?_
  refine tri_seq ?_
  refine tri_reg mixed hcx ?_ _ _
  refine mv rfl ?_
  refine ca rfl (h := r05_check_err_t hk hrr hbl hR hr) (hn := ?_)
  refine mv rfl ?_
  refine ex rfl rfl ?_
  refine ex rfl rfl ?_
  refine nw 115 zeR ?_
  refine st rfl rfl rfl tyR rfl ?_
  refine asg rfl ?_
  refine ⟨by kernel_rfl, ?_⟩
  refine nx (sl 4 rfl sn) (el 115 rfl en) ?_
  refine tri_seq ?_
  refine tri_reg mixed hcx ?_ _ _
  refine mv rfl ?_
  refine asg rfl ?_
  refine ⟨by kernel_rfl, ?_⟩
  refine nx (sl 2 rfl sn) (el 115 rfl en) ?_
  refine tri_ret ?_
  repeat (first | refine pn_thenr ?_ | refine pn_blkr ?_)
  exact ret1 hcx rfl (rv_tmp rfl) (.refl _) en

theorem r05_Valid_no {b : List (List Int)} {k m S K : Nat} (hno : ¬ Ok b b.length) (h0 : 0 < b.length) (hb : b.length ≤ 12) (hm : ∀ i, i < b.length → (b.getD i []).length = m) (hk : k ≤ 1048576) (hm12 : m ≤ 12) (hR : ShR b true 0) (hS : ∀ i j, i < b.length → j ≤ i → zl (dotU (b.getD i []) (b.getD j []) (b.getD i []).length) ≤ S) (h1S : 1 ≤ S) (hK1 : bd S 12 ≤ K) (hK2 : K ≤ 268435456) : Fn Try.prog 20 [T.l (cL (cZi k)) b] [] [] [] (T.c (.int .i64 50)) := by
  refine fn_of Try.func20 rfl (by show 1 ≤ 11; decide) fun cx hcx => ?_
  refine tri_sub (sl 0 rfl sn) en ?_
  refine tri_seq ?_
  refine tri_reg mixed hcx ?_ _ _
  refine asg rfl ?_
  refine ⟨by kernel_rfl, ?_⟩
  refine nx (sl 0 rfl sn) en ?_
  refine tri_seq ?_
  refine tri_reg mixed hcx ?_ _ _
  refine mv rfl ?_
  refine ca rfl (h := r05_check_no_t hno h0 hb hm hk hm12 hR hS h1S hK1 hK2) (hn := ?_)
  refine mv rfl ?_
  refine ex rfl rfl ?_
  refine ex rfl rfl ?_
  refine nw 115 zeR ?_
  refine st rfl rfl rfl tyR rfl ?_
  refine asg rfl ?_
  refine ⟨by kernel_rfl, ?_⟩
  refine nx (sl 4 rfl sn) (el 115 rfl en) ?_
  refine tri_seq ?_
  refine tri_reg mixed hcx ?_ _ _
  refine mv rfl ?_
  refine asg rfl ?_
  refine ⟨by kernel_rfl, ?_⟩
  refine nx (sl 2 rfl sn) (el 115 rfl en) ?_
  refine tri_ret ?_
  repeat (first | refine pn_thenr ?_ | refine pn_blkr ?_)
  exact ret1 hcx rfl (rv_tmp rfl) (.refl _) en

theorem r05_Valid_ok {b : List (List Int)} {k m S K : Nat} (hok : Ok b b.length) (h0 : 0 < b.length) (hb : b.length ≤ 12) (hm : ∀ i, i < b.length → (b.getD i []).length = m) (hk : k ≤ 1048576) (hm12 : m ≤ 12) (hR : ShR b true 0) (hS : ∀ i j, i < b.length → j ≤ i → zl (dotU (b.getD i []) (b.getD j []) (b.getD i []).length) ≤ S) (h1S : 1 ≤ S) (hK1 : bd S 12 ≤ K) (hK2 : K ≤ 268435456) : Fn Try.prog 20 [T.l (cL (cZi k)) b] [] [] [] (T.c (.int .i64 0)) := by
  refine fn_of Try.func20 rfl (by show 1 ≤ 11; decide) fun cx hcx => ?_
  refine tri_sub (sl 0 rfl sn) en ?_
  refine tri_seq ?_
  refine tri_reg mixed hcx ?_ _ _
  refine asg rfl ?_
  refine ⟨by kernel_rfl, ?_⟩
  refine nx (sl 0 rfl sn) en ?_
  refine tri_seq ?_
  refine tri_reg mixed hcx ?_ _ _
  refine mv rfl ?_
  refine ca rfl (h := r05_check_ok_t hok h0 hb hm hk hm12 hR hS h1S hK1 hK2) (hn := ?_)
  refine mv rfl ?_
  refine ex rfl rfl ?_
  refine ex rfl rfl ?_
  refine nw 115 zeR ?_
  refine st rfl rfl rfl tyR rfl ?_
  refine asg rfl ?_
  refine ⟨by kernel_rfl, ?_⟩
  refine nx (sl 4 rfl sn) (el 115 rfl en) ?_
  refine tri_seq ?_
  refine tri_reg mixed hcx ?_ _ _
  refine mv rfl ?_
  refine asg rfl ?_
  refine ⟨by kernel_rfl, ?_⟩
  refine nx (sl 2 rfl sn) (el 115 rfl en) ?_
  refine tri_ret ?_
  repeat (first | refine pn_thenr ?_ | refine pn_blkr ?_)
  exact ret1 hcx rfl (rv_tmp rfl) (.refl _) en

theorem g_Of_err {b : List (List Int)} {k : Nat} {r : Int} (hk : k ≤ 1048576) (hrr : ∀ i, i < b.length → (b.getD i []).length ≤ 1048576) (hbl : b.length ≤ 1048576) (hR : ShR b true r) (hr : r ≠ 0) : Fn Try.prog 15 [T.l (cL (cZi k)) b] [] [] [] (T.tup [T.st [T.c (.slice none 0 0), T.c (.slice none 0 0)], T.c (.int .i64 r)]) := by
  refine fn_of Try.func15 rfl (by show 1 ≤ 8; decide) fun cx hcx => ?_
  refine tri_sub (sl 0 rfl sn) en ?_
  refine tri_seq ?_
  refine tri_reg mixed hcx ?_ _ _
  refine nw 10 zeG ?_
  refine asg rfl ?_
  refine ⟨by kernel_rfl, ?_⟩
  refine nx (sl 0 rfl (sl 2 rfl sn)) (el 10 rfl en) ?_
  refine tri_seq ?_
  refine tri_reg mixed hcx ?_ _ _
  refine mv rfl ?_
  refine ca rfl (h := g_of_err_t hk hrr hbl hR hr) (hn := ?_)
  refine ex rfl rfl ?_
  refine ex rfl rfl ?_
  refine st rfl rfl rfl tyG rfl ?_
  refine asg rfl ?_
  refine ⟨by kernel_rfl, ?_⟩
  refine nx (sl 2 rfl (sl 3 rfl sn)) (el 10 rfl en) ?_
  refine tri_ret ?_
  repeat (first | refine pn_thenr ?_ | refine pn_blkr ?_)
  exact ret2 hcx rfl (rv_cell (c' := cx) (n := 0) rfl rfl tyG rfl) (rv_tmp rfl) (.refl _) en

theorem g_Of_no {b : List (List Int)} {k m S K : Nat} (h0 : 0 < b.length) (hb : b.length ≤ 12) (hm : ∀ i, i < b.length → (b.getD i []).length = m) (hk : k ≤ 1048576) (hm12 : m ≤ 12) (hR : ShR b true 0) (h : bld b b.length = none) (hS : ∀ i j, i < b.length → j ≤ i → zl (dotU (b.getD i []) (b.getD j []) (b.getD i []).length) ≤ S) (hK1 : bd S 12 ≤ K) (hK2 : K ≤ 137438953472) (hK3 : 2 ≤ K) : Fn Try.prog 15 [T.l (cL (cZi k)) b] [] [] [] (T.tup [T.st [T.c (.slice none 0 0), T.c (.slice none 0 0)], T.c (.int .i64 50)]) := by
  refine fn_of Try.func15 rfl (by show 1 ≤ 8; decide) fun cx hcx => ?_
  refine tri_sub (sl 0 rfl sn) en ?_
  refine tri_seq ?_
  refine tri_reg mixed hcx ?_ _ _
  refine nw 10 zeG ?_
  refine asg rfl ?_
  refine ⟨by kernel_rfl, ?_⟩
  refine nx (sl 0 rfl (sl 2 rfl sn)) (el 10 rfl en) ?_
  refine tri_seq ?_
  refine tri_reg mixed hcx ?_ _ _
  refine mv rfl ?_
  refine ca rfl (h := g_of_no_t h0 hb hm hk hm12 hR h hS hK1 hK2 hK3) (hn := ?_)
  refine ex rfl rfl ?_
  refine ex rfl rfl ?_
  refine st rfl rfl rfl tyG rfl ?_
  refine asg rfl ?_
  refine ⟨by kernel_rfl, ?_⟩
  refine nx (sl 2 rfl (sl 3 rfl sn)) (el 10 rfl en) ?_
  refine tri_ret ?_
  repeat (first | refine pn_thenr ?_ | refine pn_blkr ?_)
  exact ret2 hcx rfl (rv_cell (c' := cx) (n := 0) rfl rfl tyG rfl) (rv_tmp rfl) (.refl _) en

theorem g_Of_ok {b : List (List Int)} {D0 : List Int} {L0 : List (List Int)} {k m S K : Nat} (h0 : 0 < b.length) (hb : b.length ≤ 12) (hm : ∀ i, i < b.length → (b.getD i []).length = m) (hk : k ≤ 1048576) (hm12 : m ≤ 12) (hR : ShR b true 0) (h : bld b b.length = some (D0, L0)) (hS : ∀ i j, i < b.length → j ≤ i → zl (dotU (b.getD i []) (b.getD j []) (b.getD i []).length) ≤ S) (hK1 : bd S 12 ≤ K) (hK2 : K ≤ 137438953472) (hK3 : 2 ≤ K) : Fn Try.prog 15 [T.l (cL (cZi k)) b] [] [] [] (T.tup [T.st [T.l (cZ K) D0, T.l (cL (cZ K)) L0], T.c (.int .i64 0)]) := by
  refine fn_of Try.func15 rfl (by show 1 ≤ 8; decide) fun cx hcx => ?_
  refine tri_sub (sl 0 rfl sn) en ?_
  refine tri_seq ?_
  refine tri_reg mixed hcx ?_ _ _
  refine nw 10 zeG ?_
  refine asg rfl ?_
  refine ⟨by kernel_rfl, ?_⟩
  refine nx (sl 0 rfl (sl 2 rfl sn)) (el 10 rfl en) ?_
  refine tri_seq ?_
  refine tri_reg mixed hcx ?_ _ _
  refine mv rfl ?_
  refine ca rfl (h := g_of_ok_t h0 hb hm hk hm12 hR h hS hK1 hK2 hK3) (hn := ?_)
  refine ex rfl rfl ?_
  refine ex rfl rfl ?_
  refine st rfl rfl rfl tyG rfl ?_
  refine asg rfl ?_
  refine ⟨by kernel_rfl, ?_⟩
  refine nx (sl 2 rfl (sl 3 rfl sn)) (el 10 rfl en) ?_
  refine tri_ret ?_
  repeat (first | refine pn_thenr ?_ | refine pn_blkr ?_)
  exact ret2 hcx rfl (rv_cell (c' := cx) (n := 0) rfl rfl tyG rfl) (rv_tmp rfl) (.refl _) en

theorem tl_eq {l l' : List Int} {k k' : Nat} (h : l = l') (hk : k ≤ k') : (T.l (cZ k) l).le (T.l (cZ k') l') := by
  subst h; exact tl_le (fun z => z_mono hk) l
/-- A row and q times another one. -/
def grw (xs : List Int) (q : Int) (ys : List Int) (n : Nat) : List Int := (List.range n).map fun c => xs.getD c 0 + q * ys.getD c 0
theorem grw_succ {xs ys : List Int} {q : Int} {n : Nat} : grw xs q ys n ++ [xs.getD n 0 + q * ys.getD n 0] = grw xs q ys (n + 1) := by simp [grw, List.range_succ]
theorem grw_len {xs ys : List Int} {q : Int} {n : Nat} : (grw xs q ys n).length = n := by simp [grw]
def prU (a b : List (List Int)) (m n : Nat) : List (List Int) := (List.range n).map fun i => vU b (a.getD i []) m (a.getD i []).length
theorem prU_succ {a b : List (List Int)} {m n : Nat} : prU a b m n ++ [vU b (a.getD n []) m (a.getD n []).length] = prU a b m (n + 1) := by simp [prU, List.range_succ]
theorem prU_len {a b : List (List Int)} {m n : Nat} : (prU a b m n).length = n := by simp [prU]
theorem zrZ (k : Nat) (u : World) : ((cZ k).X (cZ k).dflt).rep B0 u (.agg #[.bool false, .slice none 0 0]) := zz0.trans (z_mono (Nat.zero_le k)) _ _ _ ⟨[.bool false, .slice none 0 0], rfl, cells_c (zs := [.bool false, .slice none 0 0]) rfl⟩

theorem r05_Grown {xs ys : List Int} {q : Int} {ka kx kb : Nat} (hl : xs.length ≤ ys.length) (hn : xs.length ≤ 1048576) (hka : ka ≤ 1099511627776) (hkx : kx ≤ 1099511627776) (hkb : kb ≤ 1099511627776) : Fn Try.prog 126 [T.l (cZi ka) xs, T.Zi q kx, T.l (cZi kb) ys] [] [] [] (T.l (cZ (ka + (kx + kb) + 1)) (grw xs q ys xs.length)) := by
  refine fn_of Try.func126 rfl (by show 3 ≤ 30; decide) fun cx hcx => ?_
  refine tri_sub (sl 0 rfl (sl 1 rfl (sl 2 rfl sn))) en ?_
  refine tri_seq ?_
  refine tri_reg mixed hcx ?_ _ _
  refine bx 10 rfl ?_
  refine asg rfl ?_
  refine ⟨by kernel_rfl, ?_⟩
  refine nx (sl 0 rfl (sl 2 rfl (sl 4 rfl sn))) (el 10 rfl en) ?_
  refine tri_seq ?_
  refine tri_reg mixed hcx ?_ _ _
  refine asg rfl ?_
  refine ⟨by kernel_rfl, ?_⟩
  refine nx (sl 0 rfl (sl 2 rfl (sl 4 rfl (sl 7 rfl sn)))) (el 10 rfl en) ?_
  refine tri_seq ?_
  refine tri_seq ?_
  refine tri_nil 7 9 44 (cZ (ka + (kx + kb) + 1)) rfl (by rw [hcx]; kernel_rfl) ?_
  refine tri_reg mixed hcx ?_ _ _
  refine asg rfl ?_
  refine ⟨by kernel_rfl, ?_⟩
  refine nx (sl 0 rfl (sl 2 rfl (sl 4 rfl (sl 7 rfl (sl 8 rfl sn))))) (el 10 rfl (el 9 rfl en)) ?_
  refine tri_block ?_
  refine tri_loop (ι := Nat) (fun i => [(0, T.l (cZi ka) xs), (2, T.l (cZi kb) ys), (4, T.p 10 0), (7, T.o 9), (8, T.c (.int .i64 (i : Int)))]) (fun i => [(10, some (Ent.box 44 [T.Zi q kx])), (9, some (Ent.row (cZ (ka + (kx + kb) + 1)) 44 (grw xs q ys i)))]) (fun i => xs.length - i) (fun i => (i ≤ xs.length)) 0 (Nat.zero_le _) (sl 0 rfl (sl 2 rfl (sl 4 rfl (sl 7 rfl (sl 8 rfl sn))))) (el 10 rfl (el 9 rfl en)) ?_
  rintro i hi
  refine tri_sub (sl 0 rfl (sl 2 rfl (sl 4 rfl (sl 7 rfl (sl 8 rfl sn))))) (el 10 rfl (el 9 rfl en)) ?_
  have hgl : (grw xs q ys i).length = i := grw_len
  refine tri_seq ?_
  refine tri_seq ?_
  refine tri_reg mixed hcx ?_ _ _
  refine mv rfl ?_
  refine mv rfl ?_
  refine ln slZs rfl ?_
  refine clt rfl rfl rfl ?_
  refine ⟨by kernel_rfl, ?_⟩
  refine nx (sl 0 rfl (sl 2 rfl (sl 4 rfl (sl 7 rfl (sl 8 rfl (sl 12 rfl sn)))))) (el 10 rfl (el 9 rfl en)) ?_
  refine tri_if rfl (fun hc => ?_) (fun hc => ?_)
  · refine tri_skip ?_
    refine nx (sl 0 rfl (sl 2 rfl (sl 4 rfl (sl 7 rfl (sl 8 rfl sn))))) (el 10 rfl (el 9 rfl en)) ?_
    refine tri_seq ?_
    refine tri_block ?_
    refine tri_reg mixed hcx ?_ _ _
    refine mv rfl ?_
    refine mv rfl ?_
    refine mv rfl ?_
    refine ix rfl rfl slZs ⟨rfl, by omega⟩ ?_
    refine lf rfl tyZ ?_
    refine ld rfl rfl tyZ rfl ?_
    refine mv rfl ?_
    refine mv rfl ?_
    refine ix rfl rfl slZs ⟨rfl, by omega⟩ ?_
    refine lf rfl tyZ ?_
    refine ca rfl (h := r02_Mul (by omega) (by omega)) (hn := ?_)
    refine ca rfl (h := r02_Add (by omega) (by omega)) (hn := ?_)
    refine bs (c := cZ (ka + (kx + kb) + 1)) (xs := [xs.getD i 0 + q * ys.getD i 0]) slZs rfl ⟨.refl _, trivial⟩ ?_
    refine ap 523 rfl rfl rfl slZs (by simp only [List.length_cons, List.length_nil]; omega) (by decide) ?_
    refine asg rfl ?_
    refine ⟨by kernel_rfl, ?_⟩
    refine pn_blk ?_
    refine nx (sl 0 rfl (sl 2 rfl (sl 4 rfl (sl 7 rfl (sl 8 rfl sn))))) (el 10 rfl (el 523 rfl en)) ?_
    refine tri_reg mixed hcx ?_ _ _
    refine mv rfl ?_
    refine ad (((i + 1 : Nat) : Int)) rfl rfl rfl (by omega) ?_
    refine asg rfl ?_
    refine ⟨by kernel_rfl, ?_⟩
    refine pn_sub (sl 0 rfl (sl 2 rfl (sl 4 rfl (sl 7 rfl (sl 8 rfl sn))))) (el 10 rfl (el 523 rfl en)) ?_
    refine pn_ren 7 9 523 rfl rfl (by rw [hcx]; kernel_rfl) ?_
    exact pn_back (i + 1) (by first | omega | (dsimp only; omega)) (by omega) (sl 0 rfl (sl 2 rfl (sl 4 rfl (sl 7 rfl (sl 8 rfl sn))))) (el 10 rfl (ew 9 rfl (.of (by rw [grw_succ])) en))
  · refine tri_exit ?_
    repeat (first | refine pn_then ?_ | refine pn_oth (by decide) ?_)
    refine pn_ex ?_
    obtain rfl : i = xs.length := by omega
    refine nx (sl 7 rfl sn) (el 10 rfl (el 9 rfl en)) ?_
    refine tri_seq ?_
    refine tri_fz 9 rfl ?_
    refine tri_rd 7 9 rfl rfl ?_
    refine tri_reg mixed hcx ?_ _ _
    refine mv rfl ?_
    refine asg rfl ?_
    refine ⟨by kernel_rfl, ?_⟩
    refine nx (sl 6 rfl sn) (el 10 rfl en) ?_
    refine tri_ret ?_
    repeat (first | refine pn_thenr ?_ | refine pn_blkr ?_)
    exact ret1 hcx rfl (rv_tmp rfl) (.refl _) en

theorem r05_Product {a b : List (List Int)} {kx kb m nb : Nat} (h0 : 0 < b.length) (hal : a.length ≤ 1048576) (hbl : b.length ≤ 1048576) (hm : ∀ i, i < b.length → (b.getD i []).length = m) (hmm : m ≤ 1048576) (ha : ∀ i, i < a.length → (a.getD i []).length ≤ nb ∧ (a.getD i []).length ≤ b.length) (hkx : kx ≤ 1048576) (hkb : kb ≤ 1048576) (hnb : nb ≤ 1024) : Fn Try.prog 68 [T.l (cL (cZi kx)) a, T.l (cL (cZi kb)) b] [] [] [] (T.l (cL (cZ (nb * (kx + kb + 1)))) (prU a b m a.length)) := by
  refine fn_of Try.func68 rfl (by show 2 ≤ 47; decide) fun cx hcx => ?_
  refine tri_sub (sl 0 rfl (sl 1 rfl sn)) en ?_
  have hm0 : (b.getD 0 (cL (cZi kb)).dflt).length = m := hm 0 h0
  refine tri_seq ?_
  refine tri_reg mixed hcx ?_ _ _
  refine asg rfl ?_
  refine ⟨by kernel_rfl, ?_⟩
  refine nx (sl 0 rfl (sl 1 rfl sn)) en ?_
  refine tri_seq ?_
  refine tri_reg mixed hcx ?_ _ _
  refine asg rfl ?_
  refine ⟨by kernel_rfl, ?_⟩
  refine nx (sl 0 rfl (sl 1 rfl (sl 5 rfl sn))) en ?_
  refine tri_seq ?_
  refine tri_seq ?_
  refine tri_nil 5 9 24 (cL (cZ (nb * (kx + kb + 1)))) rfl (by rw [hcx]; kernel_rfl) ?_
  refine tri_reg mixed hcx ?_ _ _
  refine asg rfl ?_
  refine ⟨by kernel_rfl, ?_⟩
  refine nx (sl 0 rfl (sl 1 rfl (sl 5 rfl (sl 6 rfl sn)))) (el 9 rfl en) ?_
  refine tri_block ?_
  refine tri_loop (ι := Nat) (fun i => [(0, T.l (cL (cZi kx)) a), (1, T.l (cL (cZi kb)) b), (5, T.o 9), (6, T.c (.int .i64 (i : Int)))]) (fun i => [(9, some (Ent.row (cL (cZ (nb * (kx + kb + 1)))) 24 (prU a b m i)))]) (fun i => a.length - i) (fun i => (i ≤ a.length)) 0 (Nat.zero_le _) (sl 0 rfl (sl 1 rfl (sl 5 rfl (sl 6 rfl sn)))) (el 9 rfl en) ?_
  rintro i hi
  refine tri_sub (sl 0 rfl (sl 1 rfl (sl 5 rfl (sl 6 rfl sn)))) (el 9 rfl en) ?_
  have hpl : (prU a b m i).length = i := prU_len
  refine tri_seq ?_
  refine tri_seq ?_
  refine tri_reg mixed hcx ?_ _ _
  refine mv rfl ?_
  refine mv rfl ?_
  refine ln slZss rfl ?_
  refine clt rfl rfl rfl ?_
  refine ⟨by kernel_rfl, ?_⟩
  refine nx (sl 0 rfl (sl 1 rfl (sl 5 rfl (sl 6 rfl (sl 12 rfl sn))))) (el 9 rfl en) ?_
  refine tri_if rfl (fun hc => ?_) (fun hc => ?_)
  · have hai : (a.getD i (cL (cZi kx)).dflt).length ≤ nb ∧ (a.getD i (cL (cZi kx)).dflt).length ≤ b.length := ha i (by omega)
    refine tri_skip ?_
    refine nx (sl 0 rfl (sl 1 rfl (sl 5 rfl (sl 6 rfl sn)))) (el 9 rfl en) ?_
    refine tri_seq ?_
    refine tri_block ?_
    refine tri_seq ?_
    refine tri_reg mixed hcx ?_ _ _
    refine mv rfl ?_
    refine ix rfl rfl slZss ⟨(rfl : _ = ((0 : Nat) : Int)), by omega⟩ ?_
    refine lf rfl tyZs ?_
    refine ln slZs rfl ?_
    refine mkz (c := (cZ 0)) (n := m) 514 slZs rfl (by omega) (fun u => ⟨zvZ, zrZ 0 u⟩) (by decide) ?_
    refine asg rfl ?_
    refine ⟨by kernel_rfl, ?_⟩
    refine nx (sl 0 rfl (sl 1 rfl (sl 5 rfl (sl 6 rfl (sl 7 rfl sn))))) (el 9 rfl (el 514 rfl en)) ?_
    refine tri_seq ?_
    refine tri_seq ?_
    refine tri_fz 514 rfl ?_
    refine tri_rd 7 514 rfl rfl ?_
    refine tri_reg mixed hcx ?_ _ _
    refine asg rfl ?_
    refine ⟨by kernel_rfl, ?_⟩
    refine nx (sl 0 rfl (sl 1 rfl (sl 5 rfl (sl 6 rfl (sl 7 rfl (sl 8 rfl sn)))))) (el 9 rfl en) ?_
    refine tri_block ?_
    refine tri_loop (ι := Nat) (fun e => [(0, T.l (cL (cZi kx)) a), (1, T.l (cL (cZi kb)) b), (5, T.o 9), (6, T.c (.int .i64 (i : Int))), (7, T.l (cZ (e * (kx + kb + 1))) (vU b (a.getD i []) m e)), (8, T.c (.int .i64 (e : Int)))]) (fun e => [(9, some (Ent.row (cL (cZ (nb * (kx + kb + 1)))) 24 (prU a b m i)))]) (fun e => (a.getD i (cL (cZi kx)).dflt).length - e) (fun e => (e ≤ (a.getD i (cL (cZi kx)).dflt).length)) 0 (Nat.zero_le _) (sl 0 rfl (sl 1 rfl (sl 5 rfl (sl 6 rfl (sw 7 rfl (tl_eq rfl (Nat.zero_le _)) (sl 8 rfl sn)))))) (el 9 rfl en) ?_
    rintro e he
    refine tri_sub (sl 0 rfl (sl 1 rfl (sl 5 rfl (sl 6 rfl (sl 7 rfl (sl 8 rfl sn)))))) (el 9 rfl en) ?_
    have hvl : (vU b (a.getD i []) m e).length = m := vU_len _ _ _ _
    have hek : e * (kx + kb + 1) ≤ 1024 * 2097153 := Nat.mul_le_mul (by omega) (by omega)
    refine tri_seq ?_
    refine tri_seq ?_
    refine tri_reg mixed hcx ?_ _ _
    refine mv rfl ?_
    refine mv rfl ?_
    refine mv rfl ?_
    refine ix rfl rfl slZss ⟨rfl, by omega⟩ ?_
    refine lf rfl tyZs ?_
    refine ln slZs rfl ?_
    refine clt rfl rfl rfl ?_
    refine ⟨by kernel_rfl, ?_⟩
    refine nx (sl 0 rfl (sl 1 rfl (sl 5 rfl (sl 6 rfl (sl 7 rfl (sl 8 rfl (sl 26 rfl sn))))))) (el 9 rfl en) ?_
    refine tri_if rfl (fun hd => ?_) (fun hd => ?_)
    · have hbe : (b.getD e (cL (cZi kb)).dflt).length = m := hm e (by omega)
      refine tri_skip ?_
      refine nx (sl 0 rfl (sl 1 rfl (sl 5 rfl (sl 6 rfl (sl 7 rfl (sl 8 rfl sn)))))) (el 9 rfl en) ?_
      refine tri_seq ?_
      refine tri_block ?_
      refine tri_reg mixed hcx ?_ _ _
      refine mv rfl ?_
      refine mv rfl ?_
      refine mv rfl ?_
      refine ix rfl rfl slZss ⟨rfl, by omega⟩ ?_
      refine lf rfl tyZs ?_
      refine mv rfl ?_
      refine ix rfl rfl slZs ⟨rfl, by omega⟩ ?_
      refine lf rfl tyZ ?_
      refine mv rfl ?_
      refine mv rfl ?_
      refine ix rfl rfl slZss ⟨rfl, by omega⟩ ?_
      refine lf rfl tyZs ?_
      refine ca rfl (h := r05_Grown (ka := e * (kx + kb + 1)) (kx := kx) (kb := kb) (by omega) (by omega) (by omega) (by omega) (by omega)) (hn := ?_)
      refine asg rfl ?_
      refine ⟨by kernel_rfl, ?_⟩
      refine pn_blk ?_
      refine nx (sl 0 rfl (sl 1 rfl (sl 5 rfl (sl 6 rfl (sl 7 rfl (sl 8 rfl sn)))))) (el 9 rfl en) ?_
      refine tri_reg mixed hcx ?_ _ _
      refine mv rfl ?_
      refine ad (((e + 1 : Nat) : Int)) rfl rfl rfl (by omega) ?_
      refine asg rfl ?_
      refine ⟨by kernel_rfl, ?_⟩
      exact pn_back (e + 1) (by first | omega | (dsimp only; omega)) (by omega) (sl 0 rfl (sl 1 rfl (sl 5 rfl (sl 6 rfl (sw 7 rfl (tl_eq (by rw [vU_len]; rfl) (by rw [Nat.succ_mul]; omega)) (sl 8 rfl sn)))))) (el 9 rfl en)
    · refine tri_exit ?_
      repeat (first | refine pn_then ?_ | refine pn_oth (by decide) ?_)
      refine pn_ex ?_
      have hee : e = (a.getD i (cL (cZi kx)).dflt).length := by omega
      refine nx (sl 0 rfl (sl 1 rfl (sl 5 rfl (sl 6 rfl (sl 7 rfl sn))))) (el 9 rfl en) ?_
      refine tri_reg mixed hcx ?_ _ _
      refine mv rfl ?_
      refine mv rfl ?_
      refine bs (c := cL (cZ (nb * (kx + kb + 1)))) (xs := [vU b (a.getD i []) m (a.getD i []).length]) slZss rfl ⟨tl_eq (by rw [hee]; rfl) (Nat.mul_le_mul_right _ (by omega)), trivial⟩ ?_
      refine ap 1013 rfl rfl rfl slZss (by simp only [List.length_cons, List.length_nil]; omega) (by decide) ?_
      refine asg rfl ?_
      refine ⟨by kernel_rfl, ?_⟩
      refine pn_blk ?_
      refine nx (sl 0 rfl (sl 1 rfl (sl 5 rfl (sl 6 rfl sn)))) (el 1013 rfl en) ?_
      refine tri_reg mixed hcx ?_ _ _
      refine mv rfl ?_
      refine ad (((i + 1 : Nat) : Int)) rfl rfl rfl (by omega) ?_
      refine asg rfl ?_
      refine ⟨by kernel_rfl, ?_⟩
      refine pn_sub (sl 0 rfl (sl 1 rfl (sl 5 rfl (sl 6 rfl sn)))) (el 1013 rfl en) ?_
      refine pn_ren 5 9 1013 rfl rfl (by rw [hcx]; kernel_rfl) ?_
      exact pn_back (i + 1) (by first | omega | (dsimp only; omega)) (by omega) (sl 0 rfl (sl 1 rfl (sl 5 rfl (sl 6 rfl sn)))) (ew 9 rfl (.of (by rw [prU_succ])) en)
  · refine tri_exit ?_
    repeat (first | refine pn_then ?_ | refine pn_oth (by decide) ?_)
    refine pn_ex ?_
    obtain rfl : i = a.length := by omega
    refine nx (sl 5 rfl sn) (el 9 rfl en) ?_
    refine tri_seq ?_
    refine tri_fz 9 rfl ?_
    refine tri_rd 5 9 rfl rfl ?_
    refine tri_reg mixed hcx ?_ _ _
    refine mv rfl ?_
    refine asg rfl ?_
    refine ⟨by kernel_rfl, ?_⟩
    refine nx (sl 4 rfl sn) en ?_
    refine tri_ret ?_
    repeat (first | refine pn_thenr ?_ | refine pn_blkr ?_)
    exact ret1 hcx rfl (rv_tmp rfl) (.refl _) en
end Go.Proofs.Ytbihfnjmdpbkgaa.V
