/- The nearest point: the normal equations, and how far it is. -/
import Derived.Test.YtmfgnbchehnpjaaGreatM06
set_option linter.unusedVariables false
set_option maxRecDepth 100000
namespace Go.Proofs.YtmfgnbchehnpjaaGreat.V
open Go.RowKit Mt Nml
/-- The coefficient of a row along a star, whichever. -/
def Wq (b : List (List Int)) (i l : Nat) : Rat := Mr (gR b) l i l / Mr (gR b) l l l
theorem wq_eq {b : List (List Int)} {n i : Nat} (h : Ok b n) (hi : i < n) : Wq b i i = 1 := by
  have hm := ok_ne h hi
  unfold Wq
  generalize Mr (gR b) i i i = m at hm
  grind
theorem wq_gt {b : List (List Int)} {n i l : Nat} (h : Ok b n) (hl : l ≤ n) (hi : i < l) : Wq b i l = 0 := by
  unfold Wq
  rw [mr_zero h l hl i hi l, Rat.div_def, Rat.zero_mul]
theorem gram_step {b : List (List Int)} {n : Nat} (h : Ok b n) (i m : Nat) : ∀ k, k ≤ n → gR b i m = sumN (fun l => Wq b i l * (Wq b m l * sR b l)) k + Mr (gR b) k i m
  | 0, _ => by show gR b i m = (0 : Rat) + gR b i m; grind
  | k + 1, hk => by
    have hm := ok_ne h (show k < n by omega)
    rw [gram_step h i m k (by omega)]
    show sumN _ k + Mr (gR b) k i m = sumN _ k + Wq b i k * (Wq b m k * sR b k) + (Mr (gR b) k i m + -(Mr (gR b) k i k / Mr (gR b) k k k) * Mr (gR b) k k m)
    rw [mr_symm (gR_symm b) k k m]
    unfold Wq sR
    generalize Mr (gR b) k k k = q at hm
    generalize Mr (gR b) k i k = x
    generalize Mr (gR b) k m k = y
    grind
theorem gram_W {b : List (List Int)} {n : Nat} (h : Ok b n) {i : Nat} (hi : i < n) (m : Nat) : gR b i m = sumN (fun l => Wq b i l * (Wq b m l * sR b l)) n := by
  rw [gram_step h i m n (Nat.le_refl _), mr_zero h n (Nat.le_refl _) i hi m]
  grind
theorem sum_tail {f : Nat → Rat} {m : Nat} : ∀ {d : Nat}, (∀ i, m ≤ i → i < m + d → f i = 0) → sumN f (m + d) = sumN f m
  | 0, _ => rfl
  | d + 1, h => by
    show sumN f (m + d) + f (m + d) = _
    rw [sum_tail fun i h1 h2 => h i h1 (by omega), h (m + d) (by omega) (by omega)]
    grind
theorem sum_head {f : Nat → Rat} {m : Nat} (h : ∀ i, i < m → f i = 0) (d : Nat) : sumN f (m + d) = sumN (fun i => f (m + i)) d := by
  rw [sum_split, sum_zero h]; grind
theorem yP_sum (D : List Int) (L : List (List Int)) (a : Nat → Rat) (ys : List Rat) (i : Nat) : ∀ j, yP D L a ys i j = a i - sumN (fun l => muq D L i l * stq D l * ys.getD l 0) j
  | 0 => by show a i = a i - (0 : Rat); grind
  | j + 1 => by show yP D L a ys i j - _ = a i - (sumN _ j + _); rw [yP_sum D L a ys i j]; grind
theorem cP_sum (D : List Int) (L : List (List Int)) (y cs : List Rat) (i : Nat) : ∀ m, cP D L y cs i m = y.getD i 0 - sumN (fun j => muq D L (i + 1 + j) i * cs.getD j 0) m
  | 0 => by show y.getD i 0 = y.getD i 0 - (0 : Rat); grind
  | m + 1 => by show cP D L y cs i m - _ = y.getD i 0 - (sumN _ m + _); rw [cP_sum D L y cs i m]; grind
/-- What is known of the coefficients: Y along the stars, C along the rows. -/
structure Near (b : List (List Int)) (n : Nat) (a Y C : Nat → Rat) : Prop where
  ok : Ok b n
  y : ∀ i, i < n → a i = sumN (fun l => Wq b i l * sR b l * Y l) n
  c : ∀ l, l < n → Y l = sumN (fun i => C i * Wq b i l) n
theorem near_of {b : List (List Int)} {n : Nat} {D : List Int} {L : List (List Int)} (h : DI b n D L) (a : Nat → Rat) : Near b n a (fun i => (yL D L a n).getD i 0) (fun i => (cB D L (yL D L a n) n n).getD i 0) := by
  have hs : ∀ i, i < n → stq D i = sR b i := fun i hi => h.star hi
  have hm : ∀ i j, i < n → j < i → muq D L i j = mR b i j := fun i j hi hj => h.mu hi hj
  have hsn : ∀ i, i < n → sR b i ≠ 0 := fun i hi => ok_ne h.ok hi
  refine ⟨h.ok, fun i hi => ?_, fun l hl => ?_⟩
  · have e1 := yL_at D L a (j := i) (i := n) hi
    have e2 := yP_sum D L a (yL D L a i) i i
    rw [hs i hi] at e1
    have hne := hsn i hi
    have e3 : sumN (fun l => muq D L i l * stq D l * (yL D L a i).getD l 0) i = sumN (fun l => Wq b i l * sR b l * (yL D L a n).getD l 0) i := sum_congr fun l hl => by
      rw [hm i l hi hl, hs l (by omega), yL_at D L a (j := l) (i := i) hl, yL_at D L a (j := l) (i := n) (by omega)]; rfl
    rw [show n = (i + 1) + (n - (i + 1)) by omega, sum_tail (m := i + 1) (d := n - (i + 1)) (fun l h1 h2 => by rw [wq_gt h.ok (by omega) (by omega)]; grind)]
    rw [show i + 1 + (n - (i + 1)) = n by omega]
    show a i = sumN _ i + Wq b i i * sR b i * (yL D L a n).getD i 0
    rw [wq_eq h.ok hi, ← e3, e1, e2]
    generalize sumN (fun l => muq D L i l * stq D l * (yL D L a i).getD l 0) i = z
    generalize sR b i = s at hne
    grind
  · have e1 := cB_at D L (yL D L a n) n (k := n) (m := l) hl
    have e2 := cP_sum D L (yL D L a n) (cB D L (yL D L a n) n (n - 1 - l)) (n - (n - l)) (n - 1 - l)
    rw [show n - (n - l) = l by omega] at e1 e2
    have e3 : sumN (fun j => muq D L (l + 1 + j) l * (cB D L (yL D L a n) n (n - 1 - l)).getD j 0) (n - 1 - l) = sumN (fun j => (cB D L (yL D L a n) n n).getD (l + 1 + j) 0 * Wq b (l + 1 + j) l) (n - 1 - l) := sum_congr fun j hj => by
      rw [hm (l + 1 + j) l (by omega) (by omega), cB_at D L (yL D L a n) n (k := n - 1 - l) (m := j) hj, cB_at D L (yL D L a n) n (k := n) (m := l + 1 + j) (by omega), show n - 1 - l - 1 - j = n - 1 - (l + 1 + j) by omega, show n - 1 - l - j = n - (l + 1 + j) by omega]
      show mR b _ _ * _ = _ * mR b _ _
      grind
    rw [show n = l + (1 + (n - 1 - l)) by omega, sum_head (fun i hi => by rw [wq_gt h.ok (by omega) hi]; grind), sum_split]
    rw [show l + (1 + (n - 1 - l)) = n by omega]
    show _ = (0 : Rat) + (cB D L (yL D L a n) n n).getD (l + 0) 0 * Wq b (l + 0) l + _
    rw [Nat.add_zero, wq_eq h.ok hl]
    rw [sum_congr (g := fun j => (cB D L (yL D L a n) n n).getD (l + 1 + j) 0 * Wq b (l + 1 + j) l) (fun j _ => by rw [Nat.add_assoc]), ← e3]
    grind
/-- The normal equations. -/
theorem Near.normal {b : List (List Int)} {n : Nat} {a Y C : Nat → Rat} (h : Near b n a Y C) {m : Nat} (hm : m < n) : sumN (fun i => C i * gR b i m) n = a m := by
  rw [sum_congr (g := fun i => sumN (fun l => C i * (Wq b i l * (Wq b m l * sR b l))) n) (fun i hi => by rw [gram_W h.ok hi m, sum_mul]), sum_swap, h.y m hm]
  refine sum_congr fun l hl => ?_
  rw [sum_congr (g := fun i => (Wq b m l * sR b l) * (C i * Wq b i l)) (fun i _ => by grind), sum_mul, ← h.c l hl]
/-- How much of the point lies in the span. -/
theorem Near.part {b : List (List Int)} {n : Nat} {a Y C : Nat → Rat} (h : Near b n a Y C) : sumN (fun i => C i * a i) n = sumN (fun l => Y l * Y l * sR b l) n := by
  rw [sum_congr (g := fun i => sumN (fun l => C i * (Wq b i l * sR b l * Y l)) n) (fun i hi => by rw [h.y i hi, sum_mul]), sum_swap]
  refine sum_congr fun l hl => ?_
  rw [sum_congr (g := fun i => (sR b l * Y l) * (C i * Wq b i l)) (fun i _ => by grind), sum_mul, ← h.c l hl]
  grind
/-! ### columns -/
abbrev tq (ts : List (Int × Int)) (k : Nat) : Rat := ((ts.getD k (0, 0)).1 : Rat) / ((ts.getD k (0, 0)).2 : Rat)
theorem alq_sum (ts : List (Int × Int)) (r : List Int) : ∀ n, alq ts r n = sumN (fun k => tq ts k * ((r.getD k 0 : Int) : Rat)) n
  | 0 => rfl
  | n + 1 => by show alq ts r n + _ = sumN _ n + _; rw [alq_sum ts r n]
theorem lq_sum (b : List (List Int)) (c : List Rat) (d : Rat) (k : Nat) : ∀ i, lq b c d k i = d - sumN (fun m => c.getD m 0 * (((b.getD m []).getD k 0 : Int) : Rat)) i
  | 0 => by show d = d - (0 : Rat); grind
  | i + 1 => by show lq b c d k i - _ = d - (sumN _ i + _); rw [lq_sum b c d k i]; grind
theorem dotU_sum (xs ys : List Int) : ∀ n, ((dotU xs ys n : Int) : Rat) = sumN (fun k => ((xs.getD k 0 : Int) : Rat) * ((ys.getD k 0 : Int) : Rat)) n
  | 0 => rfl
  | n + 1 => by
    show ((dotU xs ys n + xs.getD n 0 * ys.getD n 0 : Int) : Rat) = _ + _
    rw [Rat.intCast_add, Rat.intCast_mul, dotU_sum xs ys n]
/-- The product of what is left and a row, term by term. -/
def nq (b : List (List Int)) (c : List Rat) (ts : List (Int × Int)) (n i : Nat) : Nat → Rat
  | 0 => 0
  | k + 1 => nq b c ts n i k + lq b c (tq ts k) k n * (((b.getD i []).getD k 0 : Int) : Rat)
theorem nq_sum (b : List (List Int)) (c : List Rat) (ts : List (Int × Int)) (n i : Nat) : ∀ k, nq b c ts n i k = sumN (fun k => lq b c (tq ts k) k n * (((b.getD i []).getD k 0 : Int) : Rat)) k
  | 0 => rfl
  | k + 1 => by show nq b c ts n i k + _ = sumN _ k + _; rw [nq_sum b c ts n i k]
theorem nq_zero {b : List (List Int)} {ts : List (Int × Int)} {n m : Nat} {Y : Nat → Rat} {c : List Rat} (hm : ∀ i, i < n → (b.getD i []).length = m) (h : Near b n (fun i => alq ts (b.getD i []) m) Y (fun i => c.getD i 0)) {i : Nat} (hi : i < n) : nq b c ts n i m = 0 := by
  have e := h.normal hi
  rw [nq_sum, sum_congr (g := fun k => tq ts k * (((b.getD i []).getD k 0 : Int) : Rat) + (-1) * sumN (fun q => c.getD q 0 * ((((b.getD q []).getD k 0 : Int) : Rat) * (((b.getD i []).getD k 0 : Int) : Rat))) n) (fun k _ => by
    rw [lq_sum, sum_congr (f := fun q => c.getD q 0 * ((((b.getD q []).getD k 0 : Int) : Rat) * (((b.getD i []).getD k 0 : Int) : Rat))) (g := fun q => (((b.getD i []).getD k 0 : Int) : Rat) * (c.getD q 0 * (((b.getD q []).getD k 0 : Int) : Rat))) (fun q _ => by grind), sum_mul]
    grind), sum_add, sum_mul, ← alq_sum, sum_swap]
  rw [sum_congr (g := fun q => c.getD q 0 * gR b q i) (n := n) (fun q hq => by
    rw [sum_mul]
    show _ = _ * ((gU b q i : Int) : Rat)
    unfold gU
    rw [hm q hq, dotU_sum]), e]
  grind
theorem hq_sum (b : List (List Int)) (c : List Rat) (ts : List (Int × Int)) (n : Nat) : ∀ k, hq b c ts n k = sumN (fun k => lq b c (tq ts k) k n * lq b c (tq ts k) k n) k
  | 0 => rfl
  | k + 1 => by show hq b c ts n k + _ = sumN _ k + _; rw [hq_sum b c ts n k]
/-- How far it is. -/
theorem hq_far {b : List (List Int)} {ts : List (Int × Int)} {n m : Nat} {Y : Nat → Rat} {c : List Rat} (hm : ∀ i, i < n → (b.getD i []).length = m) (h : Near b n (fun i => alq ts (b.getD i []) m) Y (fun i => c.getD i 0)) : hq b c ts n m = sumN (fun k => tq ts k * tq ts k) m - sumN (fun l => Y l * Y l * sR b l) n := by
  have e := fun i (hi : i < n) => nq_zero hm h hi
  have e2 := h.part
  have e3 : sumN (fun k => lq b c (tq ts k) k n * sumN (fun q => c.getD q 0 * (((b.getD q []).getD k 0 : Int) : Rat)) n) m = 0 := by
    rw [sum_congr (g := fun k => sumN (fun q => c.getD q 0 * (lq b c (tq ts k) k n * (((b.getD q []).getD k 0 : Int) : Rat))) n) (fun k _ => by rw [← sum_mul]; exact sum_congr fun q _ => by grind), sum_swap]
    exact sum_zero fun q hq => by rw [sum_mul, ← nq_sum, e q hq]; grind
  have e4 : sumN (fun k => tq ts k * sumN (fun q => c.getD q 0 * (((b.getD q []).getD k 0 : Int) : Rat)) n) m = sumN (fun l => Y l * Y l * sR b l) n := by
    rw [← e2, sum_congr (g := fun k => sumN (fun q => c.getD q 0 * (tq ts k * (((b.getD q []).getD k 0 : Int) : Rat))) n) (fun k _ => by rw [← sum_mul]; exact sum_congr fun q _ => by grind), sum_swap]
    exact sum_congr fun q hq => by rw [sum_mul, ← alq_sum]
  rw [hq_sum, ← e4]
  rw [sum_congr (g := fun k => (tq ts k * tq ts k + (-1) * (tq ts k * sumN (fun q => c.getD q 0 * (((b.getD q []).getD k 0 : Int) : Rat)) n)) + (-1) * (lq b c (tq ts k) k n * sumN (fun q => c.getD q 0 * (((b.getD q []).getD k 0 : Int) : Rat)) n)) (fun k _ => by rw [lq_sum]; grind), sum_add, sum_add, sum_mul, sum_mul, e3]
  grind
theorem sum_rev (f : Nat → Rat) : ∀ n, sumN (fun j => f (n - (j + 1))) n = sumN f n
  | 0 => rfl
  | n + 1 => by
    have e := sum_split (fun j => f (n + 1 - (j + 1))) 1 n
    rw [Nat.add_comm 1 n] at e
    rw [e]
    show (0 : Rat) + f (n + 1 - (0 + 1)) + _ = sumN f n + f n
    rw [sum_congr (g := fun j => f (n - (j + 1))) (fun j hj => by congr 1; omega), sum_rev f n]
    show (0 : Rat) + f n + _ = _
    grind
end Go.Proofs.YtmfgnbchehnpjaaGreat.V
/- The nearest point: one size for all that is reckoned. -/
set_option linter.unusedVariables false
set_option maxRecDepth 100000
namespace Go.Proofs.YtmfgnbchehnpjaaGreat.V
open Go.RowKit Mt Nml
/-- The product of all of a list. -/
def dpd : List Int → Int
  | [] => 1
  | q :: l => q * dpd l
theorem dpd_pos : ∀ {l : List Int}, (∀ i, i < l.length → 0 < l.getD i 0) → 0 < dpd l
  | [], _ => by decide
  | q :: l, h => Int.mul_pos (h 0 (by simp)) (dpd_pos (l := l) fun i hi => h (i + 1) (by simp; omega))
theorem dpd_dvd : ∀ {l : List Int} {i : Nat}, i < l.length → l.getD i 0 ∣ dpd l
  | q :: l, 0, _ => ⟨dpd l, rfl⟩
  | q :: l, i + 1, h => by
    have h' : i < l.length := by simp at h; omega
    obtain ⟨c, hc⟩ := dpd_dvd (l := l) h'
    refine ⟨q * c, ?_⟩
    show q * dpd l = l.getD i 0 * (q * c)
    rw [hc]
    ac_rfl
theorem dpd_zl {K : Nat} : ∀ {l : List Int}, (∀ i, i < l.length → zl (l.getD i 0) ≤ K) → zl (dpd l) ≤ l.length * K + 1
  | [], _ => Nat.le_trans zl_one (by omega)
  | q :: l, h => by
    have h1 := dpd_zl (l := l) fun i hi => h (i + 1) (by simp; omega)
    have h2 := zl_mul (h 0 (by simp)) h1
    refine Nat.le_trans h2 ?_
    rw [List.length_cons, Nat.succ_mul]
    omega
theorem dpr_zl {K : Nat} : ∀ {l : List (Int × Int)}, (∀ i, i < l.length → zl (l.getD i (0, 0)).2 ≤ K) → zl (dpr l) ≤ l.length * K + 1
  | [], _ => Nat.le_trans zl_one (by omega)
  | q :: l, h => by
    have h1 := dpr_zl (l := l) fun i hi => h (i + 1) (by simp; omega)
    have h2 := zl_mul (h 0 (by simp)) h1
    refine Nat.le_trans h2 ?_
    rw [List.length_cons, Nat.succ_mul]
    omega
theorem pow_zl (d : Int) : ∀ k, zl (d ^ k) ≤ k * zl d + 1
  | 0 => by rw [Int.pow_zero]; exact Nat.le_trans zl_one (by omega)
  | k + 1 => by
    rw [Int.pow_succ, Nat.succ_mul]
    exact Nat.le_trans (zl_mul (pow_zl d k) (Nat.le_refl _)) (by omega)
/-- The size that holds all. -/
abbrev SN : Nat := 2147483648
structure Sizes (b : List (List Int)) (ts : List (Int × Int)) (n m : Nat) (D : List Int) (L : List (List Int)) (a : Nat → Rat) (y c : List Rat) : Prop where
  aa : ∀ i, i < n → ∀ j, j ≤ m → QB (alq ts (b.getD i []) j) 16777216
  yp : ∀ i, i < n → ∀ j, j ≤ i → QB (yP D L a (yL D L a i) i j) SN
  yy : ∀ i, i < n → QB (y.getD i 0) SN
  cp : ∀ s, s < n → ∀ j, j ≤ s → QB (cP D L y (cB D L y n s) (n - (s + 1)) j) SN
  cc : ∀ i, i < n → QB (c.getD i 0) SN
  l : ∀ k, k < m → ∀ i, i ≤ n → QB (lq b c (tq ts k) k i) SN
  h : ∀ k, k ≤ m → QB (hq b c ts n k) SN
  nn : ∀ i, i < n → ∀ k, k ≤ m → QB (nq b c ts n i k) SN
  tt : ∀ k, k ≤ m → QB (sumN (fun k => tq ts k * tq ts k) k) SN
  ds : ∀ s, s ≤ n → QB (sumN (fun k => tq ts k * tq ts k) m - sumN (fun j => y.getD (n - (j + 1)) 0 * y.getD (n - (j + 1)) 0 * stq D (n - (j + 1))) s) SN
theorem QC.up2 {q : Rat} {t d : Int} {A e f z B : Nat} (h : QC q (t * d ^ e) A) (hf : e ≤ f) (hz : zl d ≤ z) (hB : A + (f - e) * z + 1 ≤ B) : QC q (t * d ^ f) B := by
  refine ((h.up (d ^ (f - e))).cast (d' := t * d ^ f) (by rw [Int.mul_assoc, ← Int.pow_add, Nat.add_sub_cancel' hf])).mono ?_
  have h1 := pow_zl d (f - e)
  have h2 : (f - e) * zl d ≤ (f - e) * z := Nat.mul_le_mul_left _ hz
  omega
theorem QC.zero (d : Int) (A : Nat) : QC 0 d A := ⟨0, by rw [Rat.zero_mul]; rfl, by show lim 0 ≤ _; unfold lim; rw [dig_zero]; exact Nat.zero_le _⟩
theorem sizes_of {b : List (List Int)} {n m : Nat} {D : List Int} {L : List (List Int)} {ts : List (Int × Int)} (hI : DI b n D L) (hD : ∀ k, k ≤ n → zl (D.getD k 0) ≤ 839679) (hL : ∀ i j, i < n → j < i → zl ((L.getD i []).getD j 0) ≤ 839679) (hp : ∀ k, k ≤ n → 0 < D.getD k 0)
    (hn : n ≤ 12) (hm : m ≤ 12) (hts : ts.length = m) (htp : ∀ i, i < ts.length → 0 < (ts.getD i (0, 0)).2) (htz : ∀ i, i < ts.length → zl (ts.getD i (0, 0)).1 ≤ 1048576 ∧ zl (ts.getD i (0, 0)).2 ≤ 1048576) (hb : ∀ i j, zl ((b.getD i []).getD j 0) ≤ 8) :
    Sizes b ts n m D L (fun i => alq ts (b.getD i []) m) (yL D L (fun i => alq ts (b.getD i []) m) n) (cB D L (yL D L (fun i => alq ts (b.getD i []) m) n) n n) := by
  subst hts
  obtain ⟨a, ha⟩ : ∃ a, a = fun i => alq ts (b.getD i []) ts.length := ⟨_, rfl⟩
  rw [← ha]
  obtain ⟨T, hT⟩ : ∃ T, T = dpr ts := ⟨_, rfl⟩
  obtain ⟨dl, hdl⟩ : ∃ d, d = dpd D := ⟨_, rfl⟩
  have T0 : 0 < T := by rw [hT]; exact dpr_pos htp
  have dl0 : 0 < dl := by rw [hdl]; exact dpd_pos fun i hi => hp i (by rw [hI.lD] at hi; omega)
  have Tz : zl T ≤ 12582913 := by
    rw [hT]
    exact Nat.le_trans (dpr_zl (K := 1048576) fun i hi => (htz i hi).2) (Nat.succ_le_succ (Nat.le_trans (Nat.mul_le_mul_right _ hm) (by decide)))
  have dz : zl dl ≤ 10915828 := by
    rw [hdl]
    refine Nat.le_trans (dpd_zl (K := 839679) fun i hi => hD i (by rw [hI.lD] at hi; omega)) ?_
    rw [hI.lD]
    have : (n + 1) * 839679 ≤ 10915827 := Nat.le_trans (Nat.mul_le_mul_right _ (show n + 1 ≤ 13 by omega)) (by decide)
    exact Nat.succ_le_succ this
  have hz : ∀ k, zl (dl ^ k) ≤ k * 10915828 + 1 := fun k => Nat.le_trans (pow_zl dl k) (by have := Nat.mul_le_mul_left k dz; omega)
  have hdv : ∀ k, k ≤ n → D.getD k 0 ∣ dl := fun k hk => by rw [hdl]; exact dpd_dvd (by rw [hI.lD]; omega)
  have hne : ∀ k, k ≤ n → D.getD k 0 ≠ 0 := fun k hk => by have := hp k hk; omega
  have hM : ∀ i j, j < i → i < n → QC (muq D L i j) dl 11755507 := fun i j hj hi => (mu_size (by omega) (hne (j + 1) (by omega)) (hdv (j + 1) (by omega))).mono (by have := hL i j hi hj; omega)
  have hMS : ∀ i j, j < i → i < n → QC (muq D L i j * stq D j) dl 11755507 := fun i j hj hi => (mus_size (by omega) (hne (j + 1) (by omega)) (hne j (by omega)) (hdv j (by omega))).mono (by have := hL i j hi hj; omega)
  have hS : ∀ i, i < n → QC ((stq D i)⁻¹) dl 11755507 := fun i hi => (st_size (by omega) (hne (i + 1) (by omega)) (hne i (by omega)) (hdv (i + 1) (by omega))).mono (by have := hD i (by omega); omega)
  have hSt : ∀ i, i < n → QC (stq D i) dl 11755507 := fun i hi => (QC.dvd (hne i (by omega)) (by omega) (hdv i (by omega))).mono (by have := hD (i + 1) (by omega); omega)
  have ht : ∀ k, k < ts.length → QC (tq ts k) T 13631489 := fun k hk => by
    rw [hT]
    exact (t_size htp hk).mono (by have := (htz k hk).1; rw [← hT]; omega)
  have hA1 : ∀ i j, j ≤ ts.length → QC (alq ts (b.getD i []) j) T 13631510 := fun i j hj => (a_size ht (fun k => hb i k) j hj).mono (by omega)
  have hA : ∀ i, i < n → QC (a i) T 13631510 := fun i _ => by rw [ha]; exact hA1 i _ (Nat.le_refl _)
  have pos : ∀ e, 0 < T * dl ^ e := fun e => Int.mul_pos T0 (Int.pow_pos dl0)
  have zle : ∀ e, zl (T * dl ^ e) ≤ 12582913 + (e * 10915828 + 1) := fun e => zl_mul Tz (hz e)
  have hYY := y_size (D := D) (L := L) (a := a) (t := T) (dl := dl) (A0 := 13631510) (z := 10915828) (m := 11755507) (n := n) hA hMS hS hz
  have w12 : ∀ k, k * (10915828 + 11755507 + n + 2) ≤ k * 22671349 := fun k => Nat.mul_le_mul_left _ (by omega)
  have hY : ∀ i, i < n → QC ((yL D L a n).getD i 0) (T * dl ^ 23) 557743886 := fun i hi => by
    rw [yL_at D L a hi]
    refine (hYY i hi).2.up2 (by omega) dz ?_
    have := w12 (2 * i + 1)
    omega
  have hC0 := c_size (D := D) (L := L) (y := yL D L a n) (t := T) (dl := dl) (A1 := 557743886) (e0 := 23) (z := 10915828) (m := 11755507) (n := n) hY hM hz
  have hC : ∀ i, i < n → QC ((cB D L (yL D L a n) n n).getD i 0) (T * dl ^ 34) 829800087 := fun i hi => by
    refine (c_size' (D := D) (L := L) (y := yL D L a n) hY hM hz hi).up2 (by omega) dz ?_
    have := w12 (n - 1 - i)
    omega
  have hTT : ∀ k, k < ts.length → QC (tq ts k) (T * dl ^ 34) 829800087 := fun k hk => (((ht k hk).up (dl ^ 34))).mono (by have := hz 34; omega)
  have hl : ∀ k, k < ts.length → ∀ i, i ≤ n → QC (lq b (cB D L (yL D L a n) n n) (tq ts k) k i) (T * dl ^ 34) (829800087 + 8 + 12) := fun k hk i hi => (l_size (hTT k hk) hC (fun i _ => hb i k) i hi).mono (by omega)
  have z34 := zle 34
  have p34 := pos 34
  have z2 := zl_mul z34 z34
  have htt : ∀ k, k ≤ ts.length → QC (sumN (fun k => tq ts k * tq ts k) k) (T * T) (27262978 + k) := by
    intro k
    induction k with
    | zero => intro _; exact QC.zero _ _
    | succ k ih => intro hk; exact ((ih (by omega)).add ((ht k (by omega)).mul (ht k (by omega)))).mono (by omega)
  have hYS : ∀ j, j < n → QC ((yL D L a n).getD (n - (j + 1)) 0 * (yL D L a n).getD (n - (j + 1)) 0 * stq D (n - (j + 1))) ((T * dl ^ 23) * (T * dl ^ 23) * dl) 1127243279 := fun j hj => (((hY _ (by omega)).mul (hY _ (by omega))).mul (hSt _ (by omega))).mono (by omega)
  have z23 := zle 23
  have p23 := pos 23
  have zP : zl ((T * dl ^ 23) * (T * dl ^ 23) * dl) ≤ 538209834 := Nat.le_trans (zl_mul (zl_mul z23 z23) dz) (by omega)
  have hds : ∀ s, s ≤ n → QC (sumN (fun k => tq ts k * tq ts k) ts.length - sumN (fun j => (yL D L a n).getD (n - (j + 1)) 0 * (yL D L a n).getD (n - (j + 1)) 0 * stq D (n - (j + 1))) s) ((T * dl ^ 23) * (T * dl ^ 23) * dl) (1127243279 + s) := by
    intro s
    induction s with
    | zero =>
      intro _
      have e := ((htt ts.length (Nat.le_refl _)).up (dl ^ 23 * dl ^ 23 * dl)).cast (d' := (T * dl ^ 23) * (T * dl ^ 23) * dl) (by ac_rfl)
      show QC (_ - (0 : Rat)) _ _
      rw [show ∀ x : Rat, x - 0 = x from fun x => by grind]
      refine e.mono ?_
      have h23 := hz 23
      have := zl_mul (zl_mul h23 h23) dz
      omega
    | succ s ih =>
      intro hs
      have := ((ih (by omega)).sub (hYS s (by omega))).mono (B := 1127243279 + (s + 1)) (by omega)
      show QC (_ - (sumN _ s + _)) _ _
      rw [show ∀ x y z : Rat, x - (y + z) = x - y - z from fun x y z => by grind]
      exact this
  refine ⟨fun i hi j hj => ?_, fun i hi j hj => ?_, fun i hi => ?_, fun s hs j hj => ?_, fun i hi => ?_, fun k hk i hi => ?_, fun k hk => ?_, fun i hi k hk => ?_, fun k hk => ?_, fun s hs => ?_⟩
  · exact ((hA1 i j hj).mono (by decide)).qb T0 (by omega)
  · have h := (hYY i hi).1 j hj
    have h2 := w12 (2 * i)
    have h3 := zle (2 * i)
    exact (h.mono (B := SN) (by show _ ≤ 2147483648; omega)).qb (pos _) (by show _ ≤ 2147483648; omega)
  · exact ((hY i hi).mono (by decide)).qb p23 (by show _ ≤ 2147483648; omega)
  · have h := hC0 s hs j hj
    have h2 := w12 s
    have h3 := zle (23 + s)
    exact (h.mono (B := SN) (by show _ ≤ 2147483648; omega)).qb (pos _) (by show _ ≤ 2147483648; omega)
  · exact ((hC i hi).mono (by decide)).qb p34 (by show _ ≤ 2147483648; omega)
  · exact ((hl k hk i hi).mono (by decide)).qb p34 (by show _ ≤ 2147483648; omega)
  · have h := h_size (b := b) (c := cB D L (yL D L a n) n n) hTT hC (fun i k _ => hb i k) k hk
    exact (h.mono (B := SN) (by show _ ≤ 2147483648; omega)).qb (Int.mul_pos p34 p34) (by show _ ≤ 2147483648; omega)
  · have h : ∀ k, k ≤ ts.length → QC (nq b (cB D L (yL D L a n) n n) ts n i k) (T * dl ^ 34) (829800087 + 8 + 12 + 8 + k) := by
      intro k
      induction k with
      | zero => intro _; exact QC.zero _ _
      | succ k ih =>
        intro hk
        have q := ((hl k (by omega) n (Nat.le_refl _)).mul (QC.int ((b.getD i []).getD k 0))).cast (d' := T * dl ^ 34) (Int.mul_one _)
        have := hb i k
        exact ((ih (by omega)).add q).mono (by omega)
    exact ((h k hk).mono (B := SN) (by show _ ≤ 2147483648; omega)).qb p34 (by show _ ≤ 2147483648; omega)
  · exact ((htt k hk).mono (B := SN) (by show _ ≤ 2147483648; omega)).qb (Int.mul_pos T0 T0) (by have := zl_mul Tz Tz; show _ ≤ 2147483648; omega)
  · exact ((hds s hs).mono (B := SN) (by show _ ≤ 2147483648; omega)).qb (Int.mul_pos (Int.mul_pos p23 p23) dl0) (by show _ ≤ 2147483648; omega)
end Go.Proofs.YtmfgnbchehnpjaaGreat.V
/- What a basis is; sums of rows. -/
set_option linter.unusedVariables false
set_option linter.unusedSimpArgs false
set_option maxRecDepth 100000
namespace Go.Proofs.YtmfgnbchehnpjaaGreat.V
open Go.RowKit Mt Nml
theorem r05_check_err_t {b : List (List Int)} {k : Nat} {r : Int} (hk : k ≤ 1048576) (hrr : ∀ i, i < b.length → (b.getD i []).length ≤ 1048576) (hbl : b.length ≤ 1048576) (hR : ShR b true r) (hr : r ≠ 0) : Fn Tryz.prog 11 [T.l (cL (cZi k)) b, T.c (.bool true)] [] [] [] (T.tup [T.st [T.c (.slice none 0 0), T.c (.slice none 0 0)], T.c (.int .i64 r)]) := by
  refine fn_of Tryz.func11 rfl (by show 2 ≤ 25; decide) fun cx hcx => ?_
  refine tri_sub (sl 0 rfl (sl 1 rfl sn)) en ?_
  refine tri_seq ?_
  refine tri_reg mixed hcx ?_ _ _
  refine nw 10 zeR ?_
  refine asg rfl ?_
  refine ⟨by kernel_rfl, ?_⟩
  refine nx (sl 0 rfl (sl 1 rfl (sl 4 rfl sn))) (el 10 rfl en) ?_
  refine tri_seq ?_
  refine tri_reg mixed hcx ?_ _ _
  refine mv rfl ?_
  refine mv rfl ?_
  refine ca rfl (h := r05_shape_t hk hbl hrr hR) (hn := ?_)
  refine asg rfl ?_
  refine ⟨by kernel_rfl, ?_⟩
  refine nx (sl 0 rfl (sl 4 rfl (sl 6 rfl sn))) (el 10 rfl en) ?_
  refine tri_seq ?_
  refine tri_seq ?_
  refine tri_reg mixed hcx ?_ _ _
  refine mv rfl ?_
  refine cne rfl rfl (decide_eq_true hr) ?_
  refine ⟨by kernel_rfl, ?_⟩
  refine nx (sl 0 rfl (sl 4 rfl (sl 6 rfl (sl 13 rfl sn)))) (el 10 rfl en) ?_
  refine tri_true rfl rfl ?_
  refine tri_seq ?_
  refine tri_reg mixed hcx ?_ _ _
  refine bu stR rfl ?_
  refine mv rfl ?_
  refine st rfl rfl rfl tyR rfl ?_
  refine asg rfl ?_
  refine ⟨by kernel_rfl, ?_⟩
  refine nx (sl 4 rfl (sl 5 rfl sn)) (el 10 rfl en) ?_
  refine tri_ret ?_
  repeat (first | refine pn_thenr ?_ | refine pn_blkr ?_)
  exact ret2 hcx rfl (rv_cell (c' := cx) (n := 0) rfl rfl tyR rfl) (rv_tmp rfl) (.refl _) en

theorem r05_check_no_t {b : List (List Int)} {k m S K : Nat} (hno : ¬ Ok b b.length) (h0 : 0 < b.length) (hb : b.length ≤ 12) (hm : ∀ i, i < b.length → (b.getD i []).length = m) (hk : k ≤ 1048576) (hm12 : m ≤ 12) (hR : ShR b true 0) (hS : ∀ i j, i < b.length → j ≤ i → zl (dotU (b.getD i []) (b.getD j []) (b.getD i []).length) ≤ S) (h1S : 1 ≤ S) (hK1 : bd S 12 ≤ K) (hK2 : K ≤ 268435456) : Fn Tryz.prog 11 [T.l (cL (cZi k)) b, T.c (.bool true)] [] [] [] (T.tup [T.st [T.c (.slice none 0 0), T.c (.slice none 0 0)], T.c (.int .i64 50)]) := by
  refine fn_of Tryz.func11 rfl (by show 2 ≤ 25; decide) fun cx hcx => ?_
  refine tri_sub (sl 0 rfl (sl 1 rfl sn)) en ?_
  have hrr : ∀ i, i < b.length → (b.getD i []).length ≤ 1048576 := fun i hi => by rw [hm i hi]; omega
  have hmk : m * (k + k + 1) ≤ 17179869184 := Nat.le_trans (Nat.mul_le_mul hm12 (show k + k + 1 ≤ 2097153 by omega)) (by decide)
  have hQ : ∀ i, i < b.length → Ok b i → ∀ e j, e ≤ j → j ≤ i → QB (Mr (gR b) e i j) K := fun i hi ho e j h1 h2 => QB.mono (mr_QB hS h1S ho hi h1 h2) (Nat.le_trans (bd_mono (by omega)) hK1)
  have hM : ∀ i j, j < i → i < b.length → Ok b i → QB (mR b i j) K := fun i j hj hi ho => QB.mono (mR_QB hS ho hi hj) (Nat.le_trans (bd_mono (by omega)) hK1)
  refine tri_seq ?_
  refine tri_reg mixed hcx ?_ _ _
  refine nw 10 zeR ?_
  refine asg rfl ?_
  refine ⟨by kernel_rfl, ?_⟩
  refine nx (sl 0 rfl (sl 1 rfl (sl 4 rfl sn))) (el 10 rfl en) ?_
  refine tri_seq ?_
  refine tri_reg mixed hcx ?_ _ _
  refine mv rfl ?_
  refine mv rfl ?_
  refine ca rfl (h := r05_shape_t hk (by omega) hrr hR) (hn := ?_)
  refine asg rfl ?_
  refine ⟨by kernel_rfl, ?_⟩
  refine nx (sl 0 rfl (sl 4 rfl (sl 6 rfl sn))) (el 10 rfl en) ?_
  refine tri_seq ?_
  refine tri_seq ?_
  refine tri_reg mixed hcx ?_ _ _
  refine mv rfl ?_
  refine cne rfl rfl (decide_eq_false (by omega)) ?_
  refine ⟨by kernel_rfl, ?_⟩
  refine nx (sl 0 rfl (sl 4 rfl (sl 6 rfl (sl 13 rfl sn)))) (el 10 rfl en) ?_
  refine tri_false rfl rfl ?_
  refine tri_skip ?_
  refine nx (sl 0 rfl (sl 4 rfl sn)) (el 10 rfl en) ?_
  refine tri_seq ?_
  refine tri_reg mixed hcx ?_ _ _
  refine mv rfl ?_
  refine ca rfl (h := r05_Make_no hno (by omega) hm (by omega) hk hmk hQ hM hK2) (hn := ?_)
  refine mv rfl ?_
  refine ex rfl rfl ?_
  refine ex rfl rfl ?_
  refine nw 415 zeR ?_
  refine st rfl rfl rfl tyR rfl ?_
  refine asg rfl ?_
  refine ⟨by kernel_rfl, ?_⟩
  refine nx (sl 4 rfl (sl 7 rfl (sl 8 rfl sn))) (el 10 rfl (el 415 rfl en)) ?_
  refine tri_seq ?_
  refine tri_seq ?_
  refine tri_reg mixed hcx ?_ _ _
  refine mv rfl ?_
  refine nt rfl _ rfl ?_
  refine ⟨by kernel_rfl, ?_⟩
  refine nx (sl 4 rfl (sl 7 rfl (sl 22 rfl sn))) (el 10 rfl (el 415 rfl en)) ?_
  refine tri_true rfl rfl ?_
  refine tri_seq ?_
  refine tri_reg mixed hcx ?_ _ _
  refine bu stR rfl ?_
  refine st rfl rfl rfl tyR rfl ?_
  refine asg rfl ?_
  refine ⟨by kernel_rfl, ?_⟩
  refine nx (sl 4 rfl (sl 5 rfl sn)) (el 10 rfl (el 415 rfl en)) ?_
  refine tri_ret ?_
  repeat (first | refine pn_thenr ?_ | refine pn_blkr ?_)
  exact ret2 hcx rfl (rv_cell (c' := cx) (n := 0) rfl rfl tyR rfl) (rv_tmp rfl) (.refl _) en

theorem r05_check_ok_t {b : List (List Int)} {k m S K : Nat} (hok : Ok b b.length) (h0 : 0 < b.length) (hb : b.length ≤ 12) (hm : ∀ i, i < b.length → (b.getD i []).length = m) (hk : k ≤ 1048576) (hm12 : m ≤ 12) (hR : ShR b true 0) (hS : ∀ i j, i < b.length → j ≤ i → zl (dotU (b.getD i []) (b.getD j []) (b.getD i []).length) ≤ S) (h1S : 1 ≤ S) (hK1 : bd S 12 ≤ K) (hK2 : K ≤ 268435456) : Fn Tryz.prog 11 [T.l (cL (cZi k)) b, T.c (.bool true)] [] [] [] (T.tup [T.st [T.l (cL (cQ K)) (ML b b.length), T.l (cQ K) (SL b b.length)], T.c (.int .i64 0)]) := by
  refine fn_of Tryz.func11 rfl (by show 2 ≤ 25; decide) fun cx hcx => ?_
  refine tri_sub (sl 0 rfl (sl 1 rfl sn)) en ?_
  have hrr : ∀ i, i < b.length → (b.getD i []).length ≤ 1048576 := fun i hi => by rw [hm i hi]; omega
  have hmk : m * (k + k + 1) ≤ 17179869184 := Nat.le_trans (Nat.mul_le_mul hm12 (show k + k + 1 ≤ 2097153 by omega)) (by decide)
  have hQ : ∀ i, i < b.length → Ok b i → ∀ e j, e ≤ j → j ≤ i → QB (Mr (gR b) e i j) K := fun i hi ho e j h1 h2 => QB.mono (mr_QB hS h1S ho hi h1 h2) (Nat.le_trans (bd_mono (by omega)) hK1)
  have hM : ∀ i j, j < i → i < b.length → Ok b i → QB (mR b i j) K := fun i j hj hi ho => QB.mono (mR_QB hS ho hi hj) (Nat.le_trans (bd_mono (by omega)) hK1)
  refine tri_seq ?_
  refine tri_reg mixed hcx ?_ _ _
  refine nw 10 zeR ?_
  refine asg rfl ?_
  refine ⟨by kernel_rfl, ?_⟩
  refine nx (sl 0 rfl (sl 1 rfl (sl 4 rfl sn))) (el 10 rfl en) ?_
  refine tri_seq ?_
  refine tri_reg mixed hcx ?_ _ _
  refine mv rfl ?_
  refine mv rfl ?_
  refine ca rfl (h := r05_shape_t hk (by omega) hrr hR) (hn := ?_)
  refine asg rfl ?_
  refine ⟨by kernel_rfl, ?_⟩
  refine nx (sl 0 rfl (sl 4 rfl (sl 6 rfl sn))) (el 10 rfl en) ?_
  refine tri_seq ?_
  refine tri_seq ?_
  refine tri_reg mixed hcx ?_ _ _
  refine mv rfl ?_
  refine cne rfl rfl (decide_eq_false (by omega)) ?_
  refine ⟨by kernel_rfl, ?_⟩
  refine nx (sl 0 rfl (sl 4 rfl (sl 6 rfl (sl 13 rfl sn)))) (el 10 rfl en) ?_
  refine tri_false rfl rfl ?_
  refine tri_skip ?_
  refine nx (sl 0 rfl (sl 4 rfl sn)) (el 10 rfl en) ?_
  refine tri_seq ?_
  refine tri_reg mixed hcx ?_ _ _
  refine mv rfl ?_
  refine ca rfl (h := r05_Make hok (by omega) hm (by omega) hk hmk hQ hM hK2) (hn := ?_)
  refine mv rfl ?_
  refine ex rfl rfl ?_
  refine ex rfl rfl ?_
  refine nw 415 zeR ?_
  refine st rfl rfl rfl tyR rfl ?_
  refine asg rfl ?_
  refine ⟨by kernel_rfl, ?_⟩
  refine nx (sl 4 rfl (sl 7 rfl (sl 8 rfl sn))) (el 10 rfl (el 415 rfl en)) ?_
  refine tri_seq ?_
  refine tri_seq ?_
  refine tri_reg mixed hcx ?_ _ _
  refine mv rfl ?_
  refine nt rfl _ rfl ?_
  refine ⟨by kernel_rfl, ?_⟩
  refine nx (sl 4 rfl (sl 7 rfl (sl 22 rfl sn))) (el 10 rfl (el 415 rfl en)) ?_
  refine tri_false rfl rfl ?_
  refine tri_skip ?_
  refine nx (sl 4 rfl (sl 7 rfl sn)) (el 10 rfl (el 415 rfl en)) ?_
  refine tri_seq ?_
  refine tri_reg mixed hcx ?_ _ _
  refine ld rfl rfl tyR rfl ?_
  refine st rfl rfl rfl tyR rfl ?_
  refine asg rfl ?_
  refine ⟨by kernel_rfl, ?_⟩
  refine nx (sl 4 rfl (sl 5 rfl sn)) (el 10 rfl (el 415 rfl en)) ?_
  refine tri_ret ?_
  repeat (first | refine pn_thenr ?_ | refine pn_blkr ?_)
  exact ret2 hcx rfl (rv_cell (c' := cx) (n := 0) rfl rfl tyR rfl) (rv_tmp rfl) (.refl _) en

end Go.Proofs.YtmfgnbchehnpjaaGreat.V
/- The law of the lengths. -/
set_option linter.unusedVariables false
set_option linter.unusedSimpArgs false
set_option maxRecDepth 100000
namespace Go.Proofs.YtmfgnbchehnpjaaGreat.V
open Go.RowKit Mt Nml
theorem zl_bits {z : Int} (h : nbits z.natAbs ≤ 256) : zl z ≤ 8 := by
  unfold zl
  refine lim_le ?_
  have h1 := lt_nbits z.natAbs
  have h2 : 2 ^ nbits z.natAbs ≤ 2 ^ 256 := Nat.pow_le_pow_right (by omega) h
  have h3 : B 8 = ((2 ^ 256 : Nat) : Int) := by decide
  rw [h3]
  exact Int.ofNat_lt.2 (Nat.lt_of_lt_of_le h1 h2)
theorem ent_bits {b : List (List Int)} (h : matB b b.length ≤ 256) (i j : Nat) : zl ((b.getD i []).getD j 0) ≤ 8 := by
  by_cases hi : i < b.length
  · by_cases hj : j < (b.getD i []).length
    · exact zl_bits (Nat.le_trans (matB_at hi hj) h)
    · rw [List.getD_eq_getElem?_getD (l := b.getD i []), List.getElem?_eq_none (by omega)]
      show zl 0 ≤ 8
      rw [zl_zero]; omega
  · rw [List.getD_eq_getElem?_getD (l := b), List.getElem?_eq_none (by omega)]
    show zl (([] : List Int).getD j 0) ≤ 8
    rw [show ([] : List Int).getD j 0 = 0 from by simp, zl_zero]; omega
theorem val_S {b : List (List Int)} (h : matB b b.length ≤ 256) (hr : ∀ i, i < b.length → (b.getD i []).length ≤ 12) : ∀ i j, i < b.length → j ≤ i → zl (dotU (b.getD i []) (b.getD j []) (b.getD i []).length) ≤ 204 := fun i j hi hj =>
  Nat.le_trans (zl_dotU (ent_bits h i) (ent_bits h j) _) (Nat.le_trans (Nat.mul_le_mul_right _ (hr i hi)) (by decide))
theorem shr_zero {b : List (List Int)} {q : Bool} (h : ShR b q 0) : ¬ BigB b q ∧ b.length ≠ 0 ∧ ¬ BadB b := by
  have h1 : ¬ BigB b q := fun k => by have := h.big k; omega
  have h2 : b.length ≠ 0 := fun k => by have := h.nil h1 k; omega
  exact ⟨h1, h2, fun k => by have := h.bad h1 h2 k; omega⟩
/-- Rows that may be a basis, but for dependence. -/
theorem shr_basis {b : List (List Int)} (h : ShR b true 0) : 0 < b.length ∧ b.length ≤ 12 ∧ (∀ i, i < b.length → (b.getD i []).length = (b.getD 0 []).length) ∧ (b.getD 0 []).length ≤ 12 ∧ matB b b.length ≤ 256 := by
  obtain ⟨h1, h2, h3⟩ := shr_zero h
  refine ⟨by omega, Nat.not_lt.1 fun k => h1 (.inl k), fun i hi => Decidable.not_not.1 fun e => h3 ⟨i, hi, e⟩, Nat.not_lt.1 fun k => h1 (.inr (.inr ⟨0, by omega, k⟩)), Nat.not_lt.1 fun k => h1 (.inr (.inl ⟨rfl, k⟩))⟩
theorem g_le {D : List Int} {L : List (List Int)} {K : Nat} : (T.st [T.l (cZ K) D, T.l (cL (cZ K)) L]).le (T.G D L K) := st_le (l := [T.l (cZ K) D, T.l (cL (cZ K)) L]) (l' := [T.l (cZi K) D, T.l (cL (cZi K)) L]) ⟨tl_le (fun z => z_zi z K) D, tl_le (fun r => tl_le (fun z => z_zi z K) r) L, trivial⟩
theorem g_mono {D : List Int} {L : List (List Int)} {K K' : Nat} (h : K ≤ K') : (T.G D L K).le (T.G D L K') := st_le (l := [T.l (cZi K) D, T.l (cL (cZi K)) L]) (l' := [T.l (cZi K') D, T.l (cL (cZi K')) L]) ⟨tl_le (fun z => zi_mono h) D, tl_le (fun r => tl_le (fun z => zi_mono h) r) L, trivial⟩
end Go.Proofs.YtmfgnbchehnpjaaGreat.V
/- The nearest point of a span. -/
set_option linter.unusedVariables false
set_option linter.unusedSimpArgs false
set_option maxRecDepth 100000
namespace Go.Proofs.YtmfgnbchehnpjaaGreat.V
open Go.RowKit Mt Nml
/-- The rows while they are filled: from the front, from the back. -/
def yR (D : List Int) (L : List (List Int)) (a : Nat → Rat) (n i : Nat) : List (Int × Int) := (yL D L a i).map nd ++ List.replicate (n - i) (0, 0)
def cR (D : List Int) (L : List (List Int)) (y : List Rat) (n s : Nat) : List (Int × Int) := List.replicate (n - s) (0, 0) ++ (cB D L y n s).map nd
theorem yR_len {D : List Int} {L : List (List Int)} {a : Nat → Rat} {n i : Nat} (h : i ≤ n) : (yR D L a n i).length = n := by
  unfold yR
  rw [List.length_append, List.length_map, yL_len, List.length_replicate]; omega
theorem cR_len {D : List Int} {L : List (List Int)} {y : List Rat} {n s : Nat} (h : s ≤ n) : (cR D L y n s).length = n := by
  unfold cR
  rw [List.length_append, List.length_map, cB_len, List.length_replicate]; omega
theorem map_nd {l : List Rat} {j : Nat} (h : j < l.length) : (l.map nd).getD j (0, 0) = nd (l.getD j 0) := by
  rw [List.getD_eq_getElem?_getD, List.getElem?_map, List.getD_eq_getElem?_getD, List.getElem?_eq_getElem h]; rfl
theorem set_at {α : Type} {l : List α} {i : Nat} {v d : α} (h : i < l.length) : (l.set i v).getD i d = v := by
  rw [List.getD_eq_getElem?_getD, List.getElem?_set_self h]; rfl
theorem set_ne {α : Type} {l : List α} {i j : Nat} {v d : α} (h : i ≠ j) : (l.set i v).getD j d = l.getD j d := by
  rw [List.getD_eq_getElem?_getD, List.getElem?_set_ne h, List.getD_eq_getElem?_getD]
theorem yR_get {D : List Int} {L : List (List Int)} {a : Nat → Rat} {n i j : Nat} (h : j < i) : (yR D L a n i).getD j (0, 0) = nd ((yL D L a i).getD j 0) := by
  unfold yR
  rw [List.getD_eq_getElem?_getD, List.getElem?_append_left (by rw [List.length_map, yL_len]; exact h), ← List.getD_eq_getElem?_getD, map_nd (by rw [yL_len]; exact h)]
theorem cR_get {D : List Int} {L : List (List Int)} {y : List Rat} {n s q : Nat} (hs : s ≤ n) (h : q < s) : (cR D L y n s).getD (n - s + q) (0, 0) = nd ((cB D L y n s).getD q 0) := by
  unfold cR
  rw [List.getD_eq_getElem?_getD, List.getElem?_append_right (by rw [List.length_replicate]; omega), List.length_replicate, Nat.add_sub_cancel_left, ← List.getD_eq_getElem?_getD, map_nd (by rw [cB_len]; exact h)]
theorem yR_next {D : List Int} {L : List (List Int)} {a : Nat → Rat} {n i : Nat} (h : i < n) : (yR D L a n i).set i (nd (yP D L a (yL D L a i) i i / stq D i)) = yR D L a n (i + 1) := by
  have := fill_set ((yL D L a i).map nd) n (0, 0) (nd (yP D L a (yL D L a i) i i / stq D i)) (by rw [List.length_map, yL_len]; exact h)
  rw [List.length_map, yL_len] at this
  unfold yR
  rw [this, yL, List.map_append]
  rfl
theorem cR_next {D : List Int} {L : List (List Int)} {y : List Rat} {n s : Nat} (h : s < n) : (cR D L y n s).set (n - (s + 1)) (nd (cP D L y (cB D L y n s) (n - (s + 1)) s)) = cR D L y n (s + 1) := by
  unfold cR
  rw [List.set_append_left _ _ (by rw [List.length_replicate]; omega), show n - s = n - (s + 1) + 1 by omega, List.replicate_succ', List.set_append_right _ _ (by rw [List.length_replicate]; omega), List.length_replicate, Nat.sub_self, List.append_assoc]
  rfl
theorem yR_full {D : List Int} {L : List (List Int)} {a : Nat → Rat} {n j : Nat} (h : j < n) : (yR D L a n n).getD j (0, 0) = nd ((yL D L a n).getD j 0) := yR_get h
theorem cR_full {D : List Int} {L : List (List Int)} {y : List Rat} {n : Nat} : cR D L y n n = (cB D L y n n).map nd := by
  unfold cR
  rw [Nat.sub_self]; rfl
theorem cR_zero {D : List Int} {L : List (List Int)} {y : List Rat} {n : Nat} : cR D L y n 0 = List.replicate n (0, 0) := by
  unfold cR
  simp [cB]
theorem yR_zero {D : List Int} {L : List (List Int)} {a : Nat → Rat} {n : Nat} : yR D L a n 0 = List.replicate n (0, 0) := by
  unfold yR
  simp [yL]

theorem rat_div_ne {a b : Int} (ha : a ≠ 0) (hb : b ≠ 0) : (a : Rat) / (b : Rat) ≠ 0 := fun h => by
  have h1 := rat_ne ha
  have h2 := rat_ne hb
  generalize (a : Rat) = x at *
  generalize (b : Rat) = y at *
  grind

theorem g_lies {b : List (List Int)} {ts : List (Int × Int)} {D : List Int} {L : List (List Int)} {a : Nat → Rat} {k m K : Nat} (hw : Fn Tryz.prog 27 [T.l (cL (cZi k)) b] [] [] [] (T.tup [T.st [T.l (cZ K) D, T.l (cL (cZ K)) L], T.c (.int .i64 0)])) (hG : GoodP D L) (hLn : L.length = b.length) (hK : K ≤ 1048576) (hm : ∀ i, i < b.length → (b.getD i []).length = m) (hts : ts.length = m) (hmm : m ≤ 12) (hbl : b.length ≤ 12) (htp : ∀ i, i < ts.length → 0 < (ts.getD i (0, 0)).2) (hk : k ≤ 1048576) (ha : ∀ i, i < b.length → alq ts (b.getD i []) m = a i) (hs : Sizes b ts b.length m D L a (yL D L a b.length) (cB D L (yL D L a b.length) b.length b.length)) : Fn Tryz.prog 10 [T.l (cL (cZi k)) b, T.l (cQi k) ts] [] [] [] (T.tup [T.l (cQp SN) ((cB D L (yL D L a b.length) b.length b.length).map nd), T.Q (hq b (cB D L (yL D L a b.length) b.length b.length) ts b.length m) SN]) := by
  refine fn_of Tryz.func10 rfl (by show 2 ≤ 222; decide) fun cx hcx => ?_
  refine tri_sub (sl 0 rfl (sl 1 rfl sn)) en ?_
  have hSN : SN = 2147483648 := rfl
  have hgl : (T.st [T.l (cZ K) D, T.l (cL (cZ K)) L]).le (T.G D L 1048576) := g_le.trans (g_mono hK)
  have hyz := @yR_zero D L a b.length
  have hcz := @cR_zero D L (yL D L a b.length) b.length
  refine tri_seq ?_
  refine tri_reg mixed hcx ?_ _ _
  refine asg rfl ?_
  refine nw 11 zeQ ?_
  refine ⟨by kernel_rfl, ?_⟩
  refine nx (sl 0 rfl (sl 1 rfl (sl 5 rfl sn))) (el 11 rfl en) ?_
  refine tri_seq ?_
  refine tri_reg mixed hcx ?_ _ _
  refine mv rfl ?_
  refine ca rfl (h := hw) (hn := ?_)
  refine mv rfl ?_
  refine ex rfl rfl ?_
  refine ex rfl rfl ?_
  refine nw 115 zeG ?_
  refine sts rfl rfl rfl tyG rfl ?_
  refine asg rfl ?_
  refine ⟨by kernel_rfl, ?_⟩
  refine nx (sl 0 rfl (sl 1 rfl (sl 5 rfl (sl 6 rfl sn)))) (el 11 rfl (el 115 rfl en)) ?_
  refine tri_seq ?_
  refine tri_reg mixed hcx ?_ _ _
  refine mv rfl ?_
  refine ln slZss rfl ?_
  refine asg rfl ?_
  refine ⟨by kernel_rfl, ?_⟩
  refine nx (sl 0 rfl (sl 1 rfl (sl 5 rfl (sl 6 rfl (sl 8 rfl sn))))) (el 11 rfl (el 115 rfl en)) ?_
  refine tri_seq ?_
  refine tri_reg mixed hcx ?_ _ _
  refine mv rfl ?_
  refine mkz (c := cQp SN) (n := b.length) 311 slQs rfl (by omega) (fun u => ⟨zvQ, zrQp SN u⟩) (by decide) ?_
  refine asg rfl ?_
  refine ⟨by kernel_rfl, ?_⟩
  refine nx (sl 0 rfl (sl 1 rfl (sl 5 rfl (sl 6 rfl (sl 8 rfl (sl 9 rfl sn)))))) (el 11 rfl (el 115 rfl (el 311 rfl en))) ?_
  refine tri_seq ?_
  refine tri_seq ?_
  refine tri_reg mixed hcx ?_ _ _
  refine mv rfl ?_
  refine mv rfl ?_
  refine ⟨by kernel_rfl, ?_⟩
  refine nx (sl 0 rfl (sl 1 rfl (sl 5 rfl (sl 6 rfl (sl 8 rfl (sl 9 rfl (sl 42 rfl (sl 43 rfl sn)))))))) (el 11 rfl (el 115 rfl (el 311 rfl en))) ?_
  refine tri_block ?_
  refine tri_loop (ι := Nat) (fun i => [(0, T.l (cL (cZi k)) b), (1, T.l (cQi k) ts), (5, T.p 11 0), (6, T.p 115 0), (8, T.c (.int .i64 (b.length : Int))), (9, T.o 311), (42, T.c (.int .i64 (b.length : Int))), (43, T.c (.int .i64 (i : Int)))]) (fun i => [(11, some (Ent.box 28 [T.c (.bool false), T.c (.slice none 0 0), T.c (.bool false), T.c (.slice none 0 0)])), (115, some (Ent.box 54 [T.l (cZ K) D, T.l (cL (cZ K)) L])), (311, some (Ent.row (cQp SN) 28 (yR D L a b.length i)))]) (fun i => b.length - i) (fun i => (i ≤ b.length)) 0 (Nat.zero_le _) (sl 0 rfl (sl 1 rfl (sl 5 rfl (sl 6 rfl (sl 8 rfl (sl 9 rfl (sl 42 rfl (sl 43 rfl sn)))))))) (el 11 rfl (el 115 rfl (ew 311 rfl (.of (by rw [hyz]; rfl)) en))) ?_
  rintro i hi
  refine tri_sub (sl 0 rfl (sl 1 rfl (sl 5 rfl (sl 6 rfl (sl 8 rfl (sl 9 rfl (sl 42 rfl (sl 43 rfl sn)))))))) (el 11 rfl (el 115 rfl (el 311 rfl en))) ?_
  have hyl := @yR_len D L a b.length i hi
  refine tri_seq ?_
  refine tri_reg mixed hcx ?_ _ _
  refine clt rfl rfl rfl ?_
  refine ⟨by kernel_rfl, ?_⟩
  refine nx (sl 0 rfl (sl 1 rfl (sl 5 rfl (sl 6 rfl (sl 8 rfl (sl 9 rfl (sl 42 rfl (sl 43 rfl (sl 44 rfl sn))))))))) (el 11 rfl (el 115 rfl (el 311 rfl en))) ?_
  refine tri_seq ?_
  refine tri_if rfl (fun hc => ?_) (fun hc => ?_)
  · have hi2 : i < b.length := by omega
    have hmi : (b.getD i (cL (cZi k)).dflt).length = m := hm i hi2
    have hmi2 : (b.getD i []).length = m := hm i hi2
    have hys : ∀ v, (List.set (yR D L a b.length i) i v).length = b.length := fun v => by rw [List.length_set]; exact hyl
    refine tri_skip ?_
    refine nx (sl 0 rfl (sl 1 rfl (sl 5 rfl (sl 6 rfl (sl 8 rfl (sl 9 rfl (sl 42 rfl (sl 43 rfl sn)))))))) (el 11 rfl (el 115 rfl (el 311 rfl en))) ?_
    refine tri_seq ?_
    refine tri_block ?_
    refine tri_seq ?_
    refine tri_reg mixed hcx ?_ _ _
    refine mv rfl ?_
    refine asg rfl ?_
    refine ⟨by kernel_rfl, ?_⟩
    refine nx (sl 0 rfl (sl 1 rfl (sl 5 rfl (sl 6 rfl (sl 8 rfl (sl 9 rfl (sl 10 rfl (sl 42 rfl (sl 43 rfl sn))))))))) (el 11 rfl (el 115 rfl (el 311 rfl en))) ?_
    refine tri_seq ?_
    refine tri_reg mixed hcx ?_ _ _
    refine mv rfl ?_
    refine mv rfl ?_
    refine mv rfl ?_
    refine mv rfl ?_
    refine mv rfl ?_
    refine ix rfl rfl slZss ⟨rfl, by omega⟩ ?_
    refine lf rfl tyZs ?_
    refine ca rfl (h := g_along (r := b.getD i (cL (cZi k)).dflt) (S := 16777216) (by omega) (by omega) htp (by omega) (by decide) (fun j hj => hs.aa i hi2 j (by omega))) (hn := ?_)
    refine ixo rfl rfl rfl slQs ⟨rfl, by omega⟩ ?_
    refine so rfl rfl rfl (q_p (q' := yP D L a (yL D L a i) i 0) (by rw [hmi]; exact ha i hi2) (hs.yp i hi2 0 (Nat.zero_le _))) tyQ ⟨rfl, by omega⟩ ?_
    refine ⟨by kernel_rfl, ?_⟩
    refine nx (sl 0 rfl (sl 1 rfl (sl 5 rfl (sl 6 rfl (sl 8 rfl (sl 9 rfl (sl 10 rfl (sl 42 rfl (sl 43 rfl sn))))))))) (el 11 rfl (el 115 rfl (el 311 rfl en))) ?_
    refine tri_seq ?_
    refine tri_seq ?_
    refine tri_reg mixed hcx ?_ _ _
    refine mv rfl ?_
    refine mv rfl ?_
    refine ⟨by kernel_rfl, ?_⟩
    refine nx (sl 0 rfl (sl 1 rfl (sl 5 rfl (sl 6 rfl (sl 8 rfl (sl 9 rfl (sl 10 rfl (sl 42 rfl (sl 43 rfl (sl 55 rfl (sl 56 rfl sn))))))))))) (el 11 rfl (el 115 rfl (el 311 rfl en))) ?_
    refine tri_block ?_
    refine tri_loop (ι := Nat) (fun j => [(0, T.l (cL (cZi k)) b), (1, T.l (cQi k) ts), (5, T.p 11 0), (6, T.p 115 0), (8, T.c (.int .i64 (b.length : Int))), (9, T.o 311), (10, T.c (.int .i64 (i : Int))), (42, T.c (.int .i64 (b.length : Int))), (43, T.c (.int .i64 (i : Int))), (55, T.c (.int .i64 (i : Int))), (56, T.c (.int .i64 (j : Int)))]) (fun j => [(11, some (Ent.box 28 [T.c (.bool false), T.c (.slice none 0 0), T.c (.bool false), T.c (.slice none 0 0)])), (115, some (Ent.box 54 [T.l (cZ K) D, T.l (cL (cZ K)) L])), (311, some (Ent.row (cQp SN) 28 (List.set (yR D L a b.length i) i (nd (yP D L a (yL D L a i) i j)))))]) (fun j => i - j) (fun j => (j ≤ i)) 0 (Nat.zero_le _) (sl 0 rfl (sl 1 rfl (sl 5 rfl (sl 6 rfl (sl 8 rfl (sl 9 rfl (sl 10 rfl (sl 42 rfl (sl 43 rfl (sl 55 rfl (sl 56 rfl sn))))))))))) (el 11 rfl (el 115 rfl (el 311 rfl en))) ?_
    rintro j hj
    refine tri_sub (sl 0 rfl (sl 1 rfl (sl 5 rfl (sl 6 rfl (sl 8 rfl (sl 9 rfl (sl 10 rfl (sl 42 rfl (sl 43 rfl (sl 55 rfl (sl 56 rfl sn))))))))))) (el 11 rfl (el 115 rfl (el 311 rfl en))) ?_
    have hyj := hys (nd (yP D L a (yL D L a i) i j))
    refine tri_seq ?_
    refine tri_reg mixed hcx ?_ _ _
    refine clt rfl rfl rfl ?_
    refine ⟨by kernel_rfl, ?_⟩
    refine nx (sl 0 rfl (sl 1 rfl (sl 5 rfl (sl 6 rfl (sl 8 rfl (sl 9 rfl (sl 10 rfl (sl 42 rfl (sl 43 rfl (sl 55 rfl (sl 56 rfl (sl 57 rfl sn)))))))))))) (el 11 rfl (el 115 rfl (el 311 rfl en))) ?_
    refine tri_seq ?_
    refine tri_if rfl (fun hd => ?_) (fun hd => ?_)
    · have hj2 : j < i := by omega
      refine tri_skip ?_
      refine nx (sl 0 rfl (sl 1 rfl (sl 5 rfl (sl 6 rfl (sl 8 rfl (sl 9 rfl (sl 10 rfl (sl 42 rfl (sl 43 rfl (sl 55 rfl (sl 56 rfl sn))))))))))) (el 11 rfl (el 115 rfl (el 311 rfl en))) ?_
      refine tri_seq ?_
      refine tri_block ?_
      refine tri_seq ?_
      refine tri_reg mixed hcx ?_ _ _
      refine mv rfl ?_
      refine asg rfl ?_
      refine ⟨by kernel_rfl, ?_⟩
      refine nx (sl 0 rfl (sl 1 rfl (sl 5 rfl (sl 6 rfl (sl 8 rfl (sl 9 rfl (sl 10 rfl (sl 11 rfl (sl 42 rfl (sl 43 rfl (sl 55 rfl (sl 56 rfl sn)))))))))))) (el 11 rfl (el 115 rfl (el 311 rfl en))) ?_
      refine tri_seq ?_
      refine tri_reg mixed hcx ?_ _ _
      refine ld rfl rfl tyG rfl ?_
      refine mv rfl ?_
      refine mv rfl ?_
      refine ca rfl (h := (g_Mu (k := 1048576) (by decide) (by omega) hG (show i < L.length by omega) hj2)) (hn := ?_)
      refine mv rfl ?_
      refine ex rfl rfl ?_
      refine ex rfl rfl ?_
      refine nw 1117 zeQ ?_
      refine st rfl rfl rfl tyQ rfl ?_
      refine asg rfl ?_
      refine ⟨by kernel_rfl, ?_⟩
      refine nx (sl 0 rfl (sl 1 rfl (sl 5 rfl (sl 6 rfl (sl 8 rfl (sl 9 rfl (sl 10 rfl (sl 11 rfl (sl 12 rfl (sl 42 rfl (sl 43 rfl (sl 55 rfl (sl 56 rfl sn))))))))))))) (el 11 rfl (el 115 rfl (el 311 rfl (el 1117 rfl en)))) ?_
      refine tri_seq ?_
      refine tri_reg mixed hcx ?_ _ _
      refine ld rfl rfl tyG rfl ?_
      refine mv rfl ?_
      refine ca rfl (h := (g_Star (k := 1048576) (by decide) (by omega) hG (show j < L.length by omega))) (hn := ?_)
      refine mv rfl ?_
      refine ex rfl rfl ?_
      refine ex rfl rfl ?_
      refine nw 1216 zeQ ?_
      refine st rfl rfl rfl tyQ rfl ?_
      refine asg rfl ?_
      refine ⟨by kernel_rfl, ?_⟩
      refine nx (sl 0 rfl (sl 1 rfl (sl 5 rfl (sl 6 rfl (sl 8 rfl (sl 9 rfl (sl 10 rfl (sl 11 rfl (sl 12 rfl (sl 14 rfl (sl 42 rfl (sl 43 rfl (sl 55 rfl (sl 56 rfl sn)))))))))))))) (el 11 rfl (el 115 rfl (el 311 rfl (el 1117 rfl (el 1216 rfl en))))) ?_
      refine tri_seq ?_
      refine tri_reg mixed hcx ?_ _ _
      refine ld rfl rfl tyQ rfl ?_
      refine ld rfl rfl tyQ rfl ?_
      refine cb rfl (h := rv_Mul (by omega) (by omega)) (hn := ?_)
      refine mv rfl ?_
      refine ex rfl rfl ?_
      refine ex rfl rfl ?_
      refine nw 1316 zeQ ?_
      refine st rfl rfl rfl tyQ rfl ?_
      refine asg rfl ?_
      refine ⟨by kernel_rfl, ?_⟩
      refine nx (sl 0 rfl (sl 1 rfl (sl 5 rfl (sl 6 rfl (sl 8 rfl (sl 9 rfl (sl 10 rfl (sl 11 rfl (sl 16 rfl (sl 42 rfl (sl 43 rfl (sl 55 rfl (sl 56 rfl sn))))))))))))) (el 11 rfl (el 115 rfl (el 311 rfl (el 1117 rfl (el 1216 rfl (el 1316 rfl en)))))) ?_
      refine tri_seq ?_
      refine tri_reg mixed hcx ?_ _ _
      refine ld rfl rfl tyQ rfl ?_
      refine mv rfl ?_
      refine mv rfl ?_
      refine ixo rfl rfl rfl slQs ⟨rfl, by omega⟩ ?_
      refine lox (X := T.Q ((yL D L a i).getD j 0) SN) j rfl rfl tyQ ⟨rfl, rfl, by omega⟩ (p_q (by rw [show (cQp SN).dflt = (0, 0) from rfl, set_ne (by omega), yR_get hj2])) ?_
      refine cb rfl (h := rv_Mul (by omega) (by omega)) (hn := ?_)
      refine mv rfl ?_
      refine ex rfl rfl ?_
      refine ex rfl rfl ?_
      refine st rfl rfl rfl tyQ rfl ?_
      refine ⟨by kernel_rfl, ?_⟩
      refine nx (sl 0 rfl (sl 1 rfl (sl 5 rfl (sl 6 rfl (sl 8 rfl (sl 9 rfl (sl 10 rfl (sl 16 rfl (sl 42 rfl (sl 43 rfl (sl 55 rfl (sl 56 rfl sn)))))))))))) (el 11 rfl (el 115 rfl (el 311 rfl (el 1117 rfl (el 1216 rfl (el 1316 rfl en)))))) ?_
      refine tri_reg mixed hcx ?_ _ _
      refine mv rfl ?_
      refine mv rfl ?_
      refine mv rfl ?_
      refine mv rfl ?_
      refine ixo rfl rfl rfl slQs ⟨rfl, by omega⟩ ?_
      refine lox (X := T.Q (yP D L a (yL D L a i) i j) SN) i rfl rfl tyQ ⟨rfl, rfl, by omega⟩ (p_q (set_at (by omega))) ?_
      refine ld rfl rfl tyQ rfl ?_
      refine cb rfl (h := rv_Sub (by omega) (by omega)) (hn := ?_)
      refine mv rfl ?_
      refine ex rfl rfl ?_
      refine ex rfl rfl ?_
      refine ixo rfl rfl rfl slQs ⟨rfl, by omega⟩ ?_
      refine so rfl rfl rfl (q_p (q' := yP D L a (yL D L a i) i (j + 1)) rfl (hs.yp i hi2 (j + 1) (by omega))) tyQ ⟨rfl, by omega⟩ ?_
      refine ⟨by kernel_rfl, ?_⟩
      refine pn_blk ?_
      refine nx (sl 0 rfl (sl 1 rfl (sl 5 rfl (sl 6 rfl (sl 8 rfl (sl 9 rfl (sl 10 rfl (sl 42 rfl (sl 43 rfl (sl 55 rfl (sl 56 rfl sn))))))))))) (el 11 rfl (el 115 rfl (el 311 rfl (el 1117 rfl (el 1216 rfl (el 1316 rfl en)))))) ?_
      refine tri_reg mixed hcx ?_ _ _
      refine ad (((j + 1 : Nat) : Int)) rfl rfl rfl (by omega) ?_
      refine mv rfl ?_
      refine ⟨by kernel_rfl, ?_⟩
      exact pn_back (j + 1) (by first | omega | (dsimp only; omega)) (by omega) (sl 0 rfl (sl 1 rfl (sl 5 rfl (sl 6 rfl (sl 8 rfl (sl 9 rfl (sl 10 rfl (sl 42 rfl (sl 43 rfl (sl 55 rfl (sl 56 rfl sn))))))))))) (el 11 rfl (el 115 rfl (ew 311 rfl (.of (by rw [List.set_set])) en)))
    · refine tri_exit ?_
      repeat (first | refine pn_then ?_ | refine pn_oth (by decide) ?_)
      refine pn_ex ?_
      have hji : j = i := by omega
      refine nx (sl 0 rfl (sl 1 rfl (sl 5 rfl (sl 6 rfl (sl 8 rfl (sl 9 rfl (sl 10 rfl (sl 42 rfl (sl 43 rfl sn))))))))) (el 11 rfl (el 115 rfl (el 311 rfl en))) ?_
      refine tri_seq ?_
      refine tri_reg mixed hcx ?_ _ _
      refine ld rfl rfl tyG rfl ?_
      refine mv rfl ?_
      refine ca rfl (h := (g_Star (k := 1048576) (by decide) (by omega) hG (show i < L.length by omega))) (hn := ?_)
      refine mv rfl ?_
      refine ex rfl rfl ?_
      refine ex rfl rfl ?_
      refine nw 1716 zeQ ?_
      refine st rfl rfl rfl tyQ rfl ?_
      refine asg rfl ?_
      refine ⟨by kernel_rfl, ?_⟩
      refine nx (sl 0 rfl (sl 1 rfl (sl 5 rfl (sl 6 rfl (sl 8 rfl (sl 9 rfl (sl 10 rfl (sl 18 rfl (sl 42 rfl (sl 43 rfl sn)))))))))) (el 11 rfl (el 115 rfl (el 311 rfl (el 1716 rfl en)))) ?_
      have hpo := hG.pos (show i ≤ L.length by omega)
      have hpo2 := hG.pos (show i + 1 ≤ L.length by omega)
      have hsne : stq D i ≠ 0 := rat_div_ne (by omega) (by omega)
      refine tri_reg mixed hcx ?_ _ _
      refine mv rfl ?_
      refine mv rfl ?_
      refine mv rfl ?_
      refine mv rfl ?_
      refine ixo rfl rfl rfl slQs ⟨rfl, by omega⟩ ?_
      refine lox (X := T.Q (yP D L a (yL D L a i) i j) SN) i rfl rfl tyQ ⟨rfl, rfl, by omega⟩ (p_q (set_at (by omega))) ?_
      refine ld rfl rfl tyQ rfl ?_
      refine cb rfl (h := rv_Div (by omega) (by omega) hsne) (hn := ?_)
      refine mv rfl ?_
      refine ex rfl rfl ?_
      refine ex rfl rfl ?_
      refine ixo rfl rfl rfl slQs ⟨rfl, by omega⟩ ?_
      refine so rfl rfl rfl (q_p (q' := yP D L a (yL D L a i) i i / stq D i) (by rw [hji]) (by rw [← yL_at D L a hi2]; exact hs.yy i hi2)) tyQ ⟨rfl, by omega⟩ ?_
      refine ⟨by kernel_rfl, ?_⟩
      refine pn_blk ?_
      refine nx (sl 0 rfl (sl 1 rfl (sl 5 rfl (sl 6 rfl (sl 8 rfl (sl 9 rfl (sl 42 rfl (sl 43 rfl sn)))))))) (el 11 rfl (el 115 rfl (el 311 rfl (el 1716 rfl en)))) ?_
      refine tri_reg mixed hcx ?_ _ _
      refine ad (((i + 1 : Nat) : Int)) rfl rfl rfl (by omega) ?_
      refine mv rfl ?_
      refine ⟨by kernel_rfl, ?_⟩
      exact pn_back (i + 1) (by first | omega | (dsimp only; omega)) (by omega) (sl 0 rfl (sl 1 rfl (sl 5 rfl (sl 6 rfl (sl 8 rfl (sl 9 rfl (sl 42 rfl (sl 43 rfl sn)))))))) (el 11 rfl (el 115 rfl (ew 311 rfl (.of (by rw [hji, List.set_set, yR_next hi2])) en)))
  · refine tri_exit ?_
    repeat (first | refine pn_then ?_ | refine pn_oth (by decide) ?_)
    refine pn_ex ?_
    obtain rfl : i = b.length := by omega
    refine nx (sl 0 rfl (sl 1 rfl (sl 5 rfl (sl 6 rfl (sl 8 rfl (sl 9 rfl sn)))))) (el 11 rfl (el 115 rfl (el 311 rfl en))) ?_
    refine tri_seq ?_
    refine tri_reg mixed hcx ?_ _ _
    refine mv rfl ?_
    refine mkz (c := cQp SN) (n := b.length) 2011 slQs rfl (by omega) (fun u => ⟨zvQ, zrQp SN u⟩) (by decide) ?_
    refine asg rfl ?_
    refine ⟨by kernel_rfl, ?_⟩
    refine nx (sl 0 rfl (sl 1 rfl (sl 5 rfl (sl 6 rfl (sl 8 rfl (sl 9 rfl (sl 20 rfl sn))))))) (el 11 rfl (el 115 rfl (el 311 rfl (el 2011 rfl en)))) ?_
    refine tri_seq ?_
    refine tri_seq ?_
    refine tri_reg mixed hcx ?_ _ _
    refine mv rfl ?_
    refine sb (((b.length : Int) - 1)) rfl rfl rfl (by omega) ?_
    refine asg rfl ?_
    refine ⟨by kernel_rfl, ?_⟩
    refine nx (sl 0 rfl (sl 1 rfl (sl 5 rfl (sl 6 rfl (sl 8 rfl (sl 9 rfl (sl 20 rfl (sl 21 rfl sn)))))))) (el 11 rfl (el 115 rfl (el 311 rfl (el 2011 rfl en)))) ?_
    refine tri_block ?_
    refine tri_loop (ι := Nat) (fun s => [(0, T.l (cL (cZi k)) b), (1, T.l (cQi k) ts), (5, T.p 11 0), (6, T.p 115 0), (8, T.c (.int .i64 (b.length : Int))), (9, T.o 311), (20, T.o 2011), (21, T.c (.int .i64 ((b.length : Int) - 1 - (s : Int))))]) (fun s => [(11, some (Ent.box 28 [T.c (.bool false), T.c (.slice none 0 0), T.c (.bool false), T.c (.slice none 0 0)])), (115, some (Ent.box 54 [T.l (cZ K) D, T.l (cL (cZ K)) L])), (311, some (Ent.row (cQp SN) 28 (yR D L a b.length b.length))), (2011, some (Ent.row (cQp SN) 28 (cR D L (yL D L a b.length) b.length s)))]) (fun s => b.length - s) (fun s => (s ≤ b.length)) 0 (Nat.zero_le _) (sl 0 rfl (sl 1 rfl (sl 5 rfl (sl 6 rfl (sl 8 rfl (sl 9 rfl (sl 20 rfl (sw 21 rfl (ci (by simp)) sn)))))))) (el 11 rfl (el 115 rfl (el 311 rfl (ew 2011 rfl (.of (by rw [hcz]; rfl)) en)))) ?_
    rintro s hsn
    refine tri_sub (sl 0 rfl (sl 1 rfl (sl 5 rfl (sl 6 rfl (sl 8 rfl (sl 9 rfl (sl 20 rfl (sl 21 rfl sn)))))))) (el 11 rfl (el 115 rfl (el 311 rfl (el 2011 rfl en)))) ?_
    have hcl := @cR_len D L (yL D L a b.length) b.length s hsn
    have hyf := @yR_len D L a b.length b.length (Nat.le_refl _)
    refine tri_seq ?_
    refine tri_seq ?_
    refine tri_reg mixed hcx ?_ _ _
    refine mv rfl ?_
    refine cge rfl rfl rfl ?_
    refine ⟨by kernel_rfl, ?_⟩
    refine nx (sl 0 rfl (sl 1 rfl (sl 5 rfl (sl 6 rfl (sl 8 rfl (sl 9 rfl (sl 20 rfl (sl 21 rfl (sl 124 rfl sn))))))))) (el 11 rfl (el 115 rfl (el 311 rfl (el 2011 rfl en)))) ?_
    refine tri_if rfl (fun he => ?_) (fun he => ?_)
    · have hs2 : s < b.length := by omega
      have hcs : ∀ v, (List.set (cR D L (yL D L a b.length) b.length s) (b.length - (s + 1)) v).length = b.length := fun v => by rw [List.length_set]; exact hcl
      refine tri_skip ?_
      refine nx (sl 0 rfl (sl 1 rfl (sl 5 rfl (sl 6 rfl (sl 8 rfl (sl 9 rfl (sl 20 rfl (sl 21 rfl sn)))))))) (el 11 rfl (el 115 rfl (el 311 rfl (el 2011 rfl en)))) ?_
      refine tri_seq ?_
      refine tri_block ?_
      refine tri_seq ?_
      refine tri_reg mixed hcx ?_ _ _
      refine mv rfl ?_
      refine mv rfl ?_
      refine mv rfl ?_
      refine mv rfl ?_
      refine ixo rfl rfl rfl slQs (i := b.length - (s + 1)) ⟨by omega, by omega⟩ ?_
      refine lox (X := T.Q ((yL D L a b.length).getD (b.length - (s + 1)) 0) SN) (b.length - (s + 1)) rfl rfl tyQ ⟨rfl, rfl, by omega⟩ (p_q (yR_full (by omega))) ?_
      refine ixo rfl rfl rfl slQs (i := b.length - (s + 1)) ⟨by omega, by omega⟩ ?_
      refine so rfl rfl rfl (q_p (q' := cP D L (yL D L a b.length) (cB D L (yL D L a b.length) b.length s) (b.length - (s + 1)) 0) rfl (hs.cp s hs2 0 (Nat.zero_le _))) tyQ ⟨rfl, by omega⟩ ?_
      refine ⟨by kernel_rfl, ?_⟩
      refine nx (sl 0 rfl (sl 1 rfl (sl 5 rfl (sl 6 rfl (sl 8 rfl (sl 9 rfl (sl 20 rfl (sl 21 rfl sn)))))))) (el 11 rfl (el 115 rfl (el 311 rfl (el 2011 rfl en)))) ?_
      refine tri_seq ?_
      refine tri_reg mixed hcx ?_ _ _
      refine mv rfl ?_
      refine ad (((b.length - (s + 1) + 1 : Nat) : Int)) rfl rfl rfl (by omega) ?_
      refine asg rfl ?_
      refine ⟨by kernel_rfl, ?_⟩
      refine nx (sl 0 rfl (sl 1 rfl (sl 5 rfl (sl 6 rfl (sl 8 rfl (sl 9 rfl (sl 20 rfl (sl 21 rfl (sl 22 rfl sn))))))))) (el 11 rfl (el 115 rfl (el 311 rfl (el 2011 rfl en)))) ?_
      refine tri_block ?_
      refine tri_loop (ι := Nat) (fun q => [(0, T.l (cL (cZi k)) b), (1, T.l (cQi k) ts), (5, T.p 11 0), (6, T.p 115 0), (8, T.c (.int .i64 (b.length : Int))), (9, T.o 311), (20, T.o 2011), (21, T.c (.int .i64 ((b.length : Int) - 1 - (s : Int)))), (22, T.c (.int .i64 ((b.length - (s + 1) + 1 + q : Nat) : Int)))]) (fun q => [(11, some (Ent.box 28 [T.c (.bool false), T.c (.slice none 0 0), T.c (.bool false), T.c (.slice none 0 0)])), (115, some (Ent.box 54 [T.l (cZ K) D, T.l (cL (cZ K)) L])), (311, some (Ent.row (cQp SN) 28 (yR D L a b.length b.length))), (2011, some (Ent.row (cQp SN) 28 (List.set (cR D L (yL D L a b.length) b.length s) (b.length - (s + 1)) (nd (cP D L (yL D L a b.length) (cB D L (yL D L a b.length) b.length s) (b.length - (s + 1)) q)))))]) (fun q => s - q) (fun q => (q ≤ s)) 0 (Nat.zero_le _) (sl 0 rfl (sl 1 rfl (sl 5 rfl (sl 6 rfl (sl 8 rfl (sl 9 rfl (sl 20 rfl (sl 21 rfl (sl 22 rfl sn))))))))) (el 11 rfl (el 115 rfl (el 311 rfl (el 2011 rfl en)))) ?_
      rintro q hqq
      refine tri_sub (sl 0 rfl (sl 1 rfl (sl 5 rfl (sl 6 rfl (sl 8 rfl (sl 9 rfl (sl 20 rfl (sl 21 rfl (sl 22 rfl sn))))))))) (el 11 rfl (el 115 rfl (el 311 rfl (el 2011 rfl en)))) ?_
      have hcq := hcs (nd (cP D L (yL D L a b.length) (cB D L (yL D L a b.length) b.length s) (b.length - (s + 1)) q))
      refine tri_seq ?_
      refine tri_seq ?_
      refine tri_reg mixed hcx ?_ _ _
      refine mv rfl ?_
      refine mv rfl ?_
      refine clt rfl rfl rfl ?_
      refine ⟨by kernel_rfl, ?_⟩
      refine nx (sl 0 rfl (sl 1 rfl (sl 5 rfl (sl 6 rfl (sl 8 rfl (sl 9 rfl (sl 20 rfl (sl 21 rfl (sl 22 rfl (sl 138 rfl sn)))))))))) (el 11 rfl (el 115 rfl (el 311 rfl (el 2011 rfl en)))) ?_
      refine tri_if rfl (fun hf => ?_) (fun hf => ?_)
      · have hq2 : q < s := by omega
        refine tri_skip ?_
        refine nx (sl 0 rfl (sl 1 rfl (sl 5 rfl (sl 6 rfl (sl 8 rfl (sl 9 rfl (sl 20 rfl (sl 21 rfl (sl 22 rfl sn))))))))) (el 11 rfl (el 115 rfl (el 311 rfl (el 2011 rfl en)))) ?_
        refine tri_seq ?_
        refine tri_block ?_
        refine tri_seq ?_
        have hij : ((b.length : Int) - 1 - (s : Int)) = ((b.length - (s + 1) : Nat) : Int) := by omega
        rw [hij]
        refine tri_reg mixed hcx ?_ _ _
        refine ld rfl rfl tyG rfl ?_
        refine mv rfl ?_
        refine mv rfl ?_
        refine ca rfl (h := (g_Mu (k := 1048576) (by decide) (by omega) hG (i := b.length - (s + 1) + 1 + q) (j := b.length - (s + 1)) (by omega) (by omega))) (hn := ?_)
        refine mv rfl ?_
        refine ex rfl rfl ?_
        refine ex rfl rfl ?_
        refine nw 2817 zeQ ?_
        refine st rfl rfl rfl tyQ rfl ?_
        refine asg rfl ?_
        refine ⟨by kernel_rfl, ?_⟩
        refine nx (sl 0 rfl (sl 1 rfl (sl 5 rfl (sl 6 rfl (sl 8 rfl (sl 9 rfl (sl 20 rfl (sl 21 rfl (sl 22 rfl (sl 23 rfl sn)))))))))) (el 11 rfl (el 115 rfl (el 311 rfl (el 2011 rfl (el 2817 rfl en))))) ?_
        refine tri_seq ?_
        refine tri_reg mixed hcx ?_ _ _
        refine ld rfl rfl tyQ rfl ?_
        refine mv rfl ?_
        refine mv rfl ?_
        refine ixo rfl rfl rfl slQs (i := b.length - (s + 1) + 1 + q) ⟨by omega, by omega⟩ ?_
        refine lox (X := T.Q ((cB D L (yL D L a b.length) b.length s).getD q 0) SN) (b.length - (s + 1) + 1 + q) rfl rfl tyQ ⟨rfl, rfl, by omega⟩ (p_q (by rw [show (cQp SN).dflt = (0, 0) from rfl, set_ne (by omega), show b.length - (s + 1) + 1 + q = b.length - s + q by omega, cR_get hsn hq2])) ?_
        refine cb rfl (h := rv_Mul (by omega) (by omega)) (hn := ?_)
        refine mv rfl ?_
        refine ex rfl rfl ?_
        refine ex rfl rfl ?_
        refine nw 2919 zeQ ?_
        refine st rfl rfl rfl tyQ rfl ?_
        refine asg rfl ?_
        refine ⟨by kernel_rfl, ?_⟩
        refine nx (sl 0 rfl (sl 1 rfl (sl 5 rfl (sl 6 rfl (sl 8 rfl (sl 9 rfl (sl 20 rfl (sl 21 rfl (sl 22 rfl (sl 25 rfl sn)))))))))) (el 11 rfl (el 115 rfl (el 311 rfl (el 2011 rfl (el 2817 rfl (el 2919 rfl en)))))) ?_
        refine tri_reg mixed hcx ?_ _ _
        refine mv rfl ?_
        refine mv rfl ?_
        refine mv rfl ?_
        refine mv rfl ?_
        refine ixo rfl rfl rfl slQs (i := b.length - (s + 1)) ⟨by omega, by omega⟩ ?_
        refine lox (X := T.Q (cP D L (yL D L a b.length) (cB D L (yL D L a b.length) b.length s) (b.length - (s + 1)) q) SN) (b.length - (s + 1)) rfl rfl tyQ ⟨rfl, rfl, by omega⟩ (p_q (set_at (by omega))) ?_
        refine ld rfl rfl tyQ rfl ?_
        refine cb rfl (h := rv_Sub (by omega) (by omega)) (hn := ?_)
        refine mv rfl ?_
        refine ex rfl rfl ?_
        refine ex rfl rfl ?_
        refine ixo rfl rfl rfl slQs (i := b.length - (s + 1)) ⟨by omega, by omega⟩ ?_
        refine so rfl rfl rfl (q_p (q' := cP D L (yL D L a b.length) (cB D L (yL D L a b.length) b.length s) (b.length - (s + 1)) (q + 1)) rfl (hs.cp s hs2 (q + 1) (by omega))) tyQ ⟨rfl, by omega⟩ ?_
        refine ⟨by kernel_rfl, ?_⟩
        refine pn_blk ?_
        refine nx (sl 0 rfl (sl 1 rfl (sl 5 rfl (sl 6 rfl (sl 8 rfl (sl 9 rfl (sl 20 rfl (sl 21 rfl (sl 22 rfl sn))))))))) (el 11 rfl (el 115 rfl (el 311 rfl (el 2011 rfl (el 2817 rfl (el 2919 rfl en)))))) ?_
        refine tri_reg mixed hcx ?_ _ _
        refine mv rfl ?_
        refine ad (((b.length - (s + 1) + 1 + (q + 1) : Nat) : Int)) rfl rfl rfl (by omega) ?_
        refine asg rfl ?_
        refine ⟨by kernel_rfl, ?_⟩
        exact pn_back (q + 1) (by first | omega | (dsimp only; omega)) (by omega) (sl 0 rfl (sl 1 rfl (sl 5 rfl (sl 6 rfl (sl 8 rfl (sl 9 rfl (sl 20 rfl (sl 21 rfl (sw 22 rfl (ci (by omega)) sn))))))))) (el 11 rfl (el 115 rfl (el 311 rfl (ew 2011 rfl (.of (by rw [List.set_set])) en))))
      · refine tri_exit ?_
        repeat (first | refine pn_then ?_ | refine pn_oth (by decide) ?_)
        refine pn_ex ?_
        have hqs : q = s := by omega
        refine pn_blk ?_
        refine nx (sl 0 rfl (sl 1 rfl (sl 5 rfl (sl 6 rfl (sl 8 rfl (sl 9 rfl (sl 20 rfl (sl 21 rfl sn)))))))) (el 11 rfl (el 115 rfl (el 311 rfl (el 2011 rfl en)))) ?_
        refine tri_reg mixed hcx ?_ _ _
        refine mv rfl ?_
        refine sb (((b.length : Int) - 1 - ((s + 1 : Nat) : Int))) rfl rfl rfl (by omega) ?_
        refine asg rfl ?_
        refine ⟨by kernel_rfl, ?_⟩
        exact pn_back (s + 1) (by first | omega | (dsimp only; omega)) (by omega) (sl 0 rfl (sl 1 rfl (sl 5 rfl (sl 6 rfl (sl 8 rfl (sl 9 rfl (sl 20 rfl (sw 21 rfl (ci (by omega)) sn)))))))) (el 11 rfl (el 115 rfl (el 311 rfl (ew 2011 rfl (.of (by rw [hqs, cR_next hs2])) en))))
    · refine tri_exit ?_
      repeat (first | refine pn_then ?_ | refine pn_oth (by decide) ?_)
      refine pn_ex ?_
      obtain rfl : s = b.length := by omega
      refine nx (sl 0 rfl (sl 1 rfl (sl 5 rfl (sl 8 rfl (sl 20 rfl sn))))) (el 11 rfl (el 115 rfl (el 311 rfl (el 2011 rfl en)))) ?_
      refine tri_seq ?_
      refine tri_fz 2011 rfl ?_
      refine tri_rd 20 2011 rfl rfl ?_
      refine tri_as 20 (Z := T.l (cQp SN) ((cB D L (yL D L a b.length) b.length b.length).map nd)) rfl (.of (by rw [cR_full])) ?_
      refine tri_reg mixed hcx ?_ _ _
      refine ca rfl (h := zi_Of (by omega) (by omega)) (hn := ?_)
      refine ca rfl (h := rat_Of (by omega)) (hn := ?_)
      refine nw 3112 zeQ ?_
      refine st rfl rfl rfl tyQ rfl ?_
      refine ⟨by kernel_rfl, ?_⟩
      refine nx (sl 0 rfl (sl 1 rfl (sl 5 rfl (sl 8 rfl (sl 20 rfl (sl 27 rfl sn)))))) (el 11 rfl (el 115 rfl (el 311 rfl (el 3112 rfl en)))) ?_
      refine tri_seq ?_
      refine tri_seq ?_
      refine tri_reg mixed hcx ?_ _ _
      refine mv rfl ?_
      refine ln slQs rfl ?_
      refine mv rfl ?_
      refine ⟨by kernel_rfl, ?_⟩
      refine nx (sl 0 rfl (sl 1 rfl (sl 5 rfl (sl 8 rfl (sl 20 rfl (sl 27 rfl (sl 172 rfl (sl 173 rfl sn)))))))) (el 11 rfl (el 115 rfl (el 311 rfl (el 3112 rfl en)))) ?_
      refine tri_block ?_
      refine tri_loop (ι := Nat) (fun e => [(0, T.l (cL (cZi k)) b), (1, T.l (cQi k) ts), (5, T.p 11 0), (8, T.c (.int .i64 (b.length : Int))), (20, T.l (cQp SN) ((cB D L (yL D L a b.length) b.length b.length).map nd)), (27, T.p 3112 0), (172, T.c (.int .i64 (ts.length : Int))), (173, T.c (.int .i64 (e : Int)))]) (fun e => [(11, some (Ent.box 28 [T.c (.bool false), T.c (.slice none 0 0), T.c (.bool false), T.c (.slice none 0 0)])), (3112, some (Ent.box 28 [T.Q (hq b (cB D L (yL D L a b.length) b.length b.length) ts b.length e) SN]))]) (fun e => ts.length - e) (fun e => (e ≤ ts.length)) 0 (Nat.zero_le _) (sl 0 rfl (sl 1 rfl (sl 5 rfl (sl 8 rfl (sl 20 rfl (sl 27 rfl (sl 172 rfl (sl 173 rfl sn)))))))) (el 11 rfl (ew 3112 rfl (box_pack1 (q_qb (by rfl) (hs.h 0 (Nat.zero_le _)))) en)) ?_
      rintro e hee
      refine tri_sub (sl 0 rfl (sl 1 rfl (sl 5 rfl (sl 8 rfl (sl 20 rfl (sl 27 rfl (sl 172 rfl (sl 173 rfl sn)))))))) (el 11 rfl (el 3112 rfl en)) ?_
      have hcl2 : ((cB D L (yL D L a b.length) b.length b.length).map nd).length = b.length := by rw [List.length_map, cB_len]
      refine tri_seq ?_
      refine tri_reg mixed hcx ?_ _ _
      refine clt rfl rfl rfl ?_
      refine ⟨by kernel_rfl, ?_⟩
      refine nx (sl 0 rfl (sl 1 rfl (sl 5 rfl (sl 8 rfl (sl 20 rfl (sl 27 rfl (sl 172 rfl (sl 173 rfl (sl 174 rfl sn))))))))) (el 11 rfl (el 3112 rfl en)) ?_
      refine tri_seq ?_
      refine tri_if rfl (fun hg => ?_) (fun hg => ?_)
      · have hte := htp e (by omega)
        have he2 : e < m := by omega
        refine tri_skip ?_
        refine nx (sl 0 rfl (sl 1 rfl (sl 5 rfl (sl 8 rfl (sl 20 rfl (sl 27 rfl (sl 172 rfl (sl 173 rfl sn)))))))) (el 11 rfl (el 3112 rfl en)) ?_
        refine tri_seq ?_
        refine tri_block ?_
        refine tri_seq ?_
        refine tri_reg mixed hcx ?_ _ _
        refine mv rfl ?_
        refine asg rfl ?_
        refine ⟨by kernel_rfl, ?_⟩
        refine nx (sl 0 rfl (sl 1 rfl (sl 5 rfl (sl 8 rfl (sl 20 rfl (sl 27 rfl (sl 28 rfl (sl 172 rfl (sl 173 rfl sn))))))))) (el 11 rfl (el 3112 rfl en)) ?_
        refine tri_seq ?_
        refine tri_reg mixed hcx ?_ _ _
        refine mv rfl ?_
        refine mv rfl ?_
        refine ix rfl rfl slQs ⟨rfl, by omega⟩ ?_
        refine lfx (X := T.V (lq b (cB D L (yL D L a b.length) b.length b.length) (tq ts e) e 0) SN) rfl tyQ (qi_v hte rfl (by show k ≤ 2147483648; omega)) ?_
        refine nw 3514 zeQ ?_
        refine st rfl rfl rfl tyQ rfl ?_
        refine ⟨by kernel_rfl, ?_⟩
        refine nx (sl 0 rfl (sl 1 rfl (sl 5 rfl (sl 8 rfl (sl 20 rfl (sl 27 rfl (sl 28 rfl (sl 29 rfl (sl 172 rfl (sl 173 rfl sn)))))))))) (el 11 rfl (el 3112 rfl (el 3514 rfl en))) ?_
        refine tri_seq ?_
        refine tri_seq ?_
        refine tri_reg mixed hcx ?_ _ _
        refine mv rfl ?_
        refine mv rfl ?_
        refine ⟨by kernel_rfl, ?_⟩
        refine nx (sl 0 rfl (sl 1 rfl (sl 5 rfl (sl 8 rfl (sl 20 rfl (sl 27 rfl (sl 28 rfl (sl 29 rfl (sl 172 rfl (sl 173 rfl (sl 180 rfl (sl 181 rfl sn)))))))))))) (el 11 rfl (el 3112 rfl (el 3514 rfl en))) ?_
        refine tri_block ?_
        refine tri_loop (ι := Nat) (fun x => [(0, T.l (cL (cZi k)) b), (1, T.l (cQi k) ts), (5, T.p 11 0), (8, T.c (.int .i64 (b.length : Int))), (20, T.l (cQp SN) ((cB D L (yL D L a b.length) b.length b.length).map nd)), (27, T.p 3112 0), (28, T.c (.int .i64 (e : Int))), (29, T.p 3514 0), (172, T.c (.int .i64 (ts.length : Int))), (173, T.c (.int .i64 (e : Int))), (180, T.c (.int .i64 (b.length : Int))), (181, T.c (.int .i64 (x : Int)))]) (fun x => [(11, some (Ent.box 28 [T.c (.bool false), T.c (.slice none 0 0), T.c (.bool false), T.c (.slice none 0 0)])), (3112, some (Ent.box 28 [T.Q (hq b (cB D L (yL D L a b.length) b.length b.length) ts b.length e) SN])), (3514, some (Ent.box 28 [T.V (lq b (cB D L (yL D L a b.length) b.length b.length) (tq ts e) e x) SN]))]) (fun x => b.length - x) (fun x => (x ≤ b.length)) 0 (Nat.zero_le _) (sl 0 rfl (sl 1 rfl (sl 5 rfl (sl 8 rfl (sl 20 rfl (sl 27 rfl (sl 28 rfl (sl 29 rfl (sl 172 rfl (sl 173 rfl (sl 180 rfl (sl 181 rfl sn)))))))))))) (el 11 rfl (el 3112 rfl (el 3514 rfl en))) ?_
        rintro x hx
        refine tri_sub (sl 0 rfl (sl 1 rfl (sl 5 rfl (sl 8 rfl (sl 20 rfl (sl 27 rfl (sl 28 rfl (sl 29 rfl (sl 172 rfl (sl 173 rfl (sl 180 rfl (sl 181 rfl sn)))))))))))) (el 11 rfl (el 3112 rfl (el 3514 rfl en))) ?_
        refine tri_seq ?_
        refine tri_reg mixed hcx ?_ _ _
        refine clt rfl rfl rfl ?_
        refine ⟨by kernel_rfl, ?_⟩
        refine nx (sl 0 rfl (sl 1 rfl (sl 5 rfl (sl 8 rfl (sl 20 rfl (sl 27 rfl (sl 28 rfl (sl 29 rfl (sl 172 rfl (sl 173 rfl (sl 180 rfl (sl 181 rfl (sl 182 rfl sn))))))))))))) (el 11 rfl (el 3112 rfl (el 3514 rfl en))) ?_
        refine tri_seq ?_
        refine tri_if rfl (fun hh => ?_) (fun hh => ?_)
        · have hmx : (b.getD x (cL (cZi k)).dflt).length = m := hm x (by omega)
          refine tri_skip ?_
          refine nx (sl 0 rfl (sl 1 rfl (sl 5 rfl (sl 8 rfl (sl 20 rfl (sl 27 rfl (sl 28 rfl (sl 29 rfl (sl 172 rfl (sl 173 rfl (sl 180 rfl (sl 181 rfl sn)))))))))))) (el 11 rfl (el 3112 rfl (el 3514 rfl en))) ?_
          refine tri_seq ?_
          refine tri_block ?_
          refine tri_seq ?_
          refine tri_reg mixed hcx ?_ _ _
          refine mv rfl ?_
          refine asg rfl ?_
          refine ⟨by kernel_rfl, ?_⟩
          refine nx (sl 0 rfl (sl 1 rfl (sl 5 rfl (sl 8 rfl (sl 20 rfl (sl 27 rfl (sl 28 rfl (sl 29 rfl (sl 30 rfl (sl 172 rfl (sl 173 rfl (sl 180 rfl (sl 181 rfl sn))))))))))))) (el 11 rfl (el 3112 rfl (el 3514 rfl en))) ?_
          refine tri_seq ?_
          refine tri_reg mixed hcx ?_ _ _
          refine mv rfl ?_
          refine mv rfl ?_
          refine ix rfl rfl slQs ⟨rfl, by omega⟩ ?_
          refine lfx (X := T.Q ((cB D L (yL D L a b.length) b.length b.length).getD x 0) SN) rfl tyQ (p_q (map_nd (by rw [cB_len]; omega))) ?_
          refine mv rfl ?_
          refine mv rfl ?_
          refine ix rfl rfl slZss ⟨rfl, by omega⟩ ?_
          refine lf rfl tyZs ?_
          refine mv rfl ?_
          refine ix rfl rfl slZs ⟨rfl, by omega⟩ ?_
          refine lf rfl tyZ ?_
          refine ca rfl (h := rat_Of (by omega)) (hn := ?_)
          refine cb rfl (h := rv_Mul (by omega) (by omega)) (hn := ?_)
          refine mv rfl ?_
          refine ex rfl rfl ?_
          refine ex rfl rfl ?_
          refine nw 3926 zeQ ?_
          refine st rfl rfl rfl tyQ rfl ?_
          refine asg rfl ?_
          refine ⟨by kernel_rfl, ?_⟩
          refine nx (sl 0 rfl (sl 1 rfl (sl 5 rfl (sl 8 rfl (sl 20 rfl (sl 27 rfl (sl 28 rfl (sl 29 rfl (sl 31 rfl (sl 172 rfl (sl 173 rfl (sl 180 rfl (sl 181 rfl sn))))))))))))) (el 11 rfl (el 3112 rfl (el 3514 rfl (el 3926 rfl en)))) ?_
          refine tri_reg mixed hcx ?_ _ _
          refine ld rfl rfl tyQ rfl ?_
          refine ld rfl rfl tyQ rfl ?_
          refine cb rfl (h := rv_Sub (by omega) (by omega)) (hn := ?_)
          refine mv rfl ?_
          refine ex rfl rfl ?_
          refine ex rfl rfl ?_
          refine st rfl rfl rfl tyQ rfl ?_
          refine ⟨by kernel_rfl, ?_⟩
          refine pn_blk ?_
          refine nx (sl 0 rfl (sl 1 rfl (sl 5 rfl (sl 8 rfl (sl 20 rfl (sl 27 rfl (sl 28 rfl (sl 29 rfl (sl 172 rfl (sl 173 rfl (sl 180 rfl (sl 181 rfl sn)))))))))))) (el 11 rfl (el 3112 rfl (el 3514 rfl (el 3926 rfl en)))) ?_
          refine tri_reg mixed hcx ?_ _ _
          refine ad (((x + 1 : Nat) : Int)) rfl rfl rfl (by omega) ?_
          refine mv rfl ?_
          refine ⟨by kernel_rfl, ?_⟩
          exact pn_back (x + 1) (by first | omega | (dsimp only; omega)) (by omega) (sl 0 rfl (sl 1 rfl (sl 5 rfl (sl 8 rfl (sl 20 rfl (sl 27 rfl (sl 28 rfl (sl 29 rfl (sl 172 rfl (sl 173 rfl (sl 180 rfl (sl 181 rfl sn)))))))))))) (el 11 rfl (el 3112 rfl (ew 3514 rfl (box_pack1 (q_vq rfl (hs.l e he2 (x + 1) (by omega)))) en)))
        · refine tri_exit ?_
          repeat (first | refine pn_then ?_ | refine pn_oth (by decide) ?_)
          refine pn_ex ?_
          have hxn : x = b.length := by omega
          refine nx (sl 0 rfl (sl 1 rfl (sl 5 rfl (sl 8 rfl (sl 20 rfl (sl 27 rfl (sl 29 rfl (sl 172 rfl (sl 173 rfl sn))))))))) (el 11 rfl (el 3112 rfl (el 3514 rfl en))) ?_
          refine tri_seq ?_
          refine tri_reg mixed hcx ?_ _ _
          refine ld rfl rfl tyQ rfl ?_
          refine ld rfl rfl tyQ rfl ?_
          refine cb rfl (h := rv_Mul (by omega) (by omega)) (hn := ?_)
          refine mv rfl ?_
          refine ex rfl rfl ?_
          refine ex rfl rfl ?_
          refine st rfl rfl rfl tyQ rfl ?_
          refine ⟨by kernel_rfl, ?_⟩
          refine nx (sl 0 rfl (sl 1 rfl (sl 5 rfl (sl 8 rfl (sl 20 rfl (sl 27 rfl (sl 29 rfl (sl 172 rfl (sl 173 rfl sn))))))))) (el 11 rfl (el 3112 rfl (el 3514 rfl en))) ?_
          refine tri_reg mixed hcx ?_ _ _
          refine ld rfl rfl tyQ rfl ?_
          refine ld rfl rfl tyQ rfl ?_
          refine cb rfl (h := rv_Add (by omega) (by omega)) (hn := ?_)
          refine mv rfl ?_
          refine ex rfl rfl ?_
          refine ex rfl rfl ?_
          refine st rfl rfl rfl tyQ rfl ?_
          refine ⟨by kernel_rfl, ?_⟩
          refine pn_blk ?_
          refine nx (sl 0 rfl (sl 1 rfl (sl 5 rfl (sl 8 rfl (sl 20 rfl (sl 27 rfl (sl 172 rfl (sl 173 rfl sn)))))))) (el 11 rfl (el 3112 rfl (el 3514 rfl en))) ?_
          refine tri_reg mixed hcx ?_ _ _
          refine ad (((e + 1 : Nat) : Int)) rfl rfl rfl (by omega) ?_
          refine mv rfl ?_
          refine ⟨by kernel_rfl, ?_⟩
          exact pn_back (e + 1) (by first | omega | (dsimp only; omega)) (by omega) (sl 0 rfl (sl 1 rfl (sl 5 rfl (sl 8 rfl (sl 20 rfl (sl 27 rfl (sl 172 rfl (sl 173 rfl sn)))))))) (el 11 rfl (ew 3112 rfl (box_pack1 (q_qb (by rw [hxn]; rfl) (hs.h (e + 1) (by omega)))) en))
      · refine tri_exit ?_
        repeat (first | refine pn_then ?_ | refine pn_oth (by decide) ?_)
        refine pn_ex ?_
        have hem : e = m := by omega
        refine nx (sl 5 rfl (sl 20 rfl (sl 27 rfl sn))) (el 11 rfl (el 3112 rfl en)) ?_
        refine tri_seq ?_
        refine tri_reg mixed hcx ?_ _ _
        refine mv rfl ?_
        refine ld rfl rfl tyQ rfl ?_
        refine asg rfl ?_
        refine st rfl rfl rfl tyQ rfl ?_
        refine ⟨by kernel_rfl, ?_⟩
        refine nx (sl 4 rfl (sl 5 rfl sn)) (el 11 rfl (el 3112 rfl en)) ?_
        refine tri_ret ?_
        repeat (first | refine pn_thenr ?_ | refine pn_blkr ?_)
        exact ret2 hcx rfl (rv_tmp rfl) (rv_cell (c' := cx) (n := 0) rfl rfl tyQ rfl) (tup_le ⟨.refl _, q_eq (by rw [hem]) (Nat.le_refl _), trivial⟩) en
end Go.Proofs.YtmfgnbchehnpjaaGreat.V
/- The nearest point: the law's walk. -/
set_option linter.unusedVariables false
set_option linter.unusedSimpArgs false
set_option maxRecDepth 100000
namespace Go.Proofs.YtmfgnbchehnpjaaGreat.V
open Go.RowKit Mt Nml
theorem shr_wide {b : List (List Int)} (h : ShR b true 0) : ShR b false 0 := by
  obtain ⟨h1, h2, h3⟩ := shr_zero h
  refine ⟨fun h4 => absurd ?_ h1, fun _ h4 => absurd h4 h2, fun _ _ h4 => absurd h4 h3, fun _ _ _ => rfl⟩
  rcases h4 with h5 | ⟨h5, _⟩ | h5
  · exact .inl h5
  · cases h5
  · exact .inr (.inr h5)

theorem g_Wide_ok {b : List (List Int)} {D0 : List Int} {L0 : List (List Int)} {k m S K : Nat} (h0 : 0 < b.length) (hb : b.length ≤ 12) (hm : ∀ i, i < b.length → (b.getD i []).length = m) (hk : k ≤ 1048576) (hm12 : m ≤ 12) (hR : ShR b false 0) (h : bld b b.length = some (D0, L0)) (hS : ∀ i j, i < b.length → j ≤ i → zl (dotU (b.getD i []) (b.getD j []) (b.getD i []).length) ≤ S) (hK1 : bd S 12 ≤ K) (hK2 : K ≤ 137438953472) (hK3 : 2 ≤ K) : Fn Tryz.prog 27 [T.l (cL (cZi k)) b] [] [] [] (T.tup [T.st [T.l (cZ K) D0, T.l (cL (cZ K)) L0], T.c (.int .i64 0)]) := by
  refine fn_of Tryz.func27 rfl (by show 1 ≤ 8; decide) fun cx hcx => ?_
  refine tri_sub (sl 0 rfl sn) en ?_
  refine tri_seq ?_
  refine tri_reg mixed hcx ?_ _ _
  refine nw 10 zeG ?_
  refine asg rfl ?_
  refine ⟨by kernel_rfl, ?_⟩
  refine nx (sl 0 rfl (sl 2 rfl sn)) (el 10 rfl en) ?_
  refine tri_seq ?_
  refine tri_reg mixed hcx ?_ _ _
  refine mv rfl ?_
  refine ca rfl (h := g_of_ok_f h0 hb hm hk hm12 hR h hS hK1 hK2 hK3) (hn := ?_)
  refine ex rfl rfl ?_
  refine ex rfl rfl ?_
  refine st rfl rfl rfl tyG rfl ?_
  refine asg rfl ?_
  refine ⟨by kernel_rfl, ?_⟩
  refine nx (sl 2 rfl (sl 3 rfl sn)) (el 10 rfl en) ?_
  refine tri_ret ?_
  repeat (first | refine pn_thenr ?_ | refine pn_blkr ?_)
  exact ret2 hcx rfl (rv_cell (c' := cx) (n := 0) rfl rfl tyG rfl) (rv_tmp rfl) (.refl _) en

theorem g_Valid_err {b : List (List Int)} {k : Nat} {r : Int} (hk : k ≤ 1048576) (hrr : ∀ i, i < b.length → (b.getD i []).length ≤ 1048576) (hbl : b.length ≤ 1048576) (hR : ShR b true r) (hr : r ≠ 0) : Fn Tryz.prog 8 [T.l (cL (cZi k)) b] [] [] [] (T.c (.int .i64 r)) := by
  refine fn_of Tryz.func8 rfl (by show 1 ≤ 11; decide) fun cx hcx => ?_
  refine tri_sub (sl 0 rfl sn) en ?_
  refine tri_seq ?_
  refine tri_reg mixed hcx ?_ _ _
  refine asg rfl ?_
  refine ⟨by kernel_rfl, ?_⟩
  refine nx (sl 0 rfl sn) en ?_
  refine tri_seq ?_
  refine tri_reg mixed hcx ?_ _ _
  refine mv rfl ?_
  refine ca rfl (h := g_of_err_t hk hrr hbl hR hr) (hn := ?_)
  refine mv rfl ?_
  refine ex rfl rfl ?_
  refine ex rfl rfl ?_
  refine nw 115 zeG ?_
  refine st rfl rfl rfl tyG rfl ?_
  refine asg rfl ?_
  refine ⟨by kernel_rfl, ?_⟩
  refine nx (sl 4 rfl sn) (el 115 rfl en) ?_
  refine tri_seq ?_
  refine tri_reg mixed hcx ?_ _ _
  refine mv rfl ?_
  refine asg rfl ?_
  refine ⟨by kernel_rfl, ?_⟩
  refine nx (sl 2 rfl sn) (el 115 rfl en) ?_
  refine tri_ret ?_
  repeat (first | refine pn_thenr ?_ | refine pn_blkr ?_)
  exact ret1 hcx rfl (rv_tmp rfl) (.refl _) en

theorem g_Valid_no {b : List (List Int)} {k m S K : Nat} (h0 : 0 < b.length) (hb : b.length ≤ 12) (hm : ∀ i, i < b.length → (b.getD i []).length = m) (hk : k ≤ 1048576) (hm12 : m ≤ 12) (hR : ShR b true 0) (h : bld b b.length = none) (hS : ∀ i j, i < b.length → j ≤ i → zl (dotU (b.getD i []) (b.getD j []) (b.getD i []).length) ≤ S) (hK1 : bd S 12 ≤ K) (hK2 : K ≤ 137438953472) (hK3 : 2 ≤ K) : Fn Tryz.prog 8 [T.l (cL (cZi k)) b] [] [] [] (T.c (.int .i64 50)) := by
  refine fn_of Tryz.func8 rfl (by show 1 ≤ 11; decide) fun cx hcx => ?_
  refine tri_sub (sl 0 rfl sn) en ?_
  refine tri_seq ?_
  refine tri_reg mixed hcx ?_ _ _
  refine asg rfl ?_
  refine ⟨by kernel_rfl, ?_⟩
  refine nx (sl 0 rfl sn) en ?_
  refine tri_seq ?_
  refine tri_reg mixed hcx ?_ _ _
  refine mv rfl ?_
  refine ca rfl (h := g_of_no_t h0 hb hm hk hm12 hR h hS hK1 hK2 hK3) (hn := ?_)
  refine mv rfl ?_
  refine ex rfl rfl ?_
  refine ex rfl rfl ?_
  refine nw 115 zeG ?_
  refine st rfl rfl rfl tyG rfl ?_
  refine asg rfl ?_
  refine ⟨by kernel_rfl, ?_⟩
  refine nx (sl 4 rfl sn) (el 115 rfl en) ?_
  refine tri_seq ?_
  refine tri_reg mixed hcx ?_ _ _
  refine mv rfl ?_
  refine asg rfl ?_
  refine ⟨by kernel_rfl, ?_⟩
  refine nx (sl 2 rfl sn) (el 115 rfl en) ?_
  refine tri_ret ?_
  repeat (first | refine pn_thenr ?_ | refine pn_blkr ?_)
  exact ret1 hcx rfl (rv_tmp rfl) (.refl _) en

theorem g_Valid_ok {b : List (List Int)} {D0 : List Int} {L0 : List (List Int)} {k m S K : Nat} (h0 : 0 < b.length) (hb : b.length ≤ 12) (hm : ∀ i, i < b.length → (b.getD i []).length = m) (hk : k ≤ 1048576) (hm12 : m ≤ 12) (hR : ShR b true 0) (h : bld b b.length = some (D0, L0)) (hS : ∀ i j, i < b.length → j ≤ i → zl (dotU (b.getD i []) (b.getD j []) (b.getD i []).length) ≤ S) (hK1 : bd S 12 ≤ K) (hK2 : K ≤ 137438953472) (hK3 : 2 ≤ K) : Fn Tryz.prog 8 [T.l (cL (cZi k)) b] [] [] [] (T.c (.int .i64 0)) := by
  refine fn_of Tryz.func8 rfl (by show 1 ≤ 11; decide) fun cx hcx => ?_
  refine tri_sub (sl 0 rfl sn) en ?_
  refine tri_seq ?_
  refine tri_reg mixed hcx ?_ _ _
  refine asg rfl ?_
  refine ⟨by kernel_rfl, ?_⟩
  refine nx (sl 0 rfl sn) en ?_
  refine tri_seq ?_
  refine tri_reg mixed hcx ?_ _ _
  refine mv rfl ?_
  refine ca rfl (h := g_of_ok_t h0 hb hm hk hm12 hR h hS hK1 hK2 hK3) (hn := ?_)
  refine mv rfl ?_
  refine ex rfl rfl ?_
  refine ex rfl rfl ?_
  refine nw 115 zeG ?_
  refine st rfl rfl rfl tyG rfl ?_
  refine asg rfl ?_
  refine ⟨by kernel_rfl, ?_⟩
  refine nx (sl 4 rfl sn) (el 115 rfl en) ?_
  refine tri_seq ?_
  refine tri_reg mixed hcx ?_ _ _
  refine mv rfl ?_
  refine asg rfl ?_
  refine ⟨by kernel_rfl, ?_⟩
  refine nx (sl 2 rfl sn) (el 115 rfl en) ?_
  refine tri_ret ?_
  repeat (first | refine pn_thenr ?_ | refine pn_blkr ?_)
  exact ret1 hcx rfl (rv_tmp rfl) (.refl _) en

theorem g_Coords_err {b : List (List Int)} {ts : List (Int × Int)} {k : Nat} (hk : k ≤ 1048576) (htl : ts.length ≤ 1048576) {r : Int} (hv : Fn Tryz.prog 8 [T.l (cL (cZi k)) b] [] [] [] (T.c (.int .i64 r))) (hr : r ≠ 0) : Fn Tryz.prog 4 [T.l (cL (cZi k)) b, T.l (cQi k) ts] [] [] [] (T.tup [T.c (.slice none 0 0), ZQ, T.c (.int .i64 r)]) := by
  refine fn_of Tryz.func4 rfl (by show 2 ≤ 46; decide) fun cx hcx => ?_
  refine tri_sub (sl 0 rfl (sl 1 rfl sn)) en ?_
  refine tri_seq ?_
  refine tri_reg mixed hcx ?_ _ _
  refine asg rfl ?_
  refine nw 11 zeQ ?_
  refine asg rfl ?_
  refine ⟨by kernel_rfl, ?_⟩
  refine nx (sl 0 rfl (sl 1 rfl (sl 5 rfl sn))) (el 11 rfl en) ?_
  refine tri_seq ?_
  refine tri_seq ?_
  refine tri_reg mixed hcx ?_ _ _
  refine mv rfl ?_
  refine ca rfl (h := hv) (hn := ?_)
  refine asg rfl ?_
  refine ⟨by kernel_rfl, ?_⟩
  refine nx (sl 0 rfl (sl 1 rfl (sl 5 rfl (sl 7 rfl sn)))) (el 11 rfl en) ?_
  refine tri_seq ?_
  refine tri_reg mixed hcx ?_ _ _
  refine mv rfl ?_
  refine cne rfl rfl (decide_eq_true hr) ?_
  refine ⟨by kernel_rfl, ?_⟩
  refine nx (sl 0 rfl (sl 1 rfl (sl 5 rfl (sl 7 rfl (sl 15 rfl sn))))) (el 11 rfl en) ?_
  refine tri_true rfl rfl ?_
  refine tri_seq ?_
  refine tri_reg mixed hcx ?_ _ _
  refine bu stQ rfl ?_
  refine mv rfl ?_
  refine asg rfl ?_
  refine st rfl rfl rfl tyQ rfl ?_
  refine asg rfl ?_
  refine ⟨by kernel_rfl, ?_⟩
  refine nx (sl 4 rfl (sl 5 rfl (sl 6 rfl sn))) (el 11 rfl en) ?_
  refine tri_ret ?_
  repeat (first | refine pn_thenr ?_ | refine pn_blkr ?_)
  exact ret3 hcx rfl (rv_tmp rfl) (rv_cell (c' := cx) (n := 0) rfl rfl tyQ rfl) (rv_tmp rfl) (.refl _) en

theorem g_Coords_shape {b : List (List Int)} {ts : List (Int × Int)} {k : Nat} (hk : k ≤ 1048576) (htl : ts.length ≤ 1048576) (hv : Fn Tryz.prog 8 [T.l (cL (cZi k)) b] [] [] [] (T.c (.int .i64 0))) (h0 : 0 < b.length) {m : Nat} (hm0 : (b.getD 0 []).length = m) (hmm : m ≤ 12) (hts : ts.length ≠ m) : Fn Tryz.prog 4 [T.l (cL (cZi k)) b, T.l (cQi k) ts] [] [] [] (T.tup [T.c (.slice none 0 0), ZQ, T.c (.int .i64 8)]) := by
  refine fn_of Tryz.func4 rfl (by show 2 ≤ 46; decide) fun cx hcx => ?_
  refine tri_sub (sl 0 rfl (sl 1 rfl sn)) en ?_
  have hmz : (b.getD 0 (cL (cZi k)).dflt).length = m := hm0
  refine tri_seq ?_
  refine tri_reg mixed hcx ?_ _ _
  refine asg rfl ?_
  refine nw 11 zeQ ?_
  refine asg rfl ?_
  refine ⟨by kernel_rfl, ?_⟩
  refine nx (sl 0 rfl (sl 1 rfl (sl 5 rfl sn))) (el 11 rfl en) ?_
  refine tri_seq ?_
  refine tri_seq ?_
  refine tri_reg mixed hcx ?_ _ _
  refine mv rfl ?_
  refine ca rfl (h := hv) (hn := ?_)
  refine asg rfl ?_
  refine ⟨by kernel_rfl, ?_⟩
  refine nx (sl 0 rfl (sl 1 rfl (sl 5 rfl (sl 7 rfl sn)))) (el 11 rfl en) ?_
  refine tri_seq ?_
  refine tri_reg mixed hcx ?_ _ _
  refine mv rfl ?_
  refine cne rfl rfl (decide_eq_false (by omega)) ?_
  refine ⟨by kernel_rfl, ?_⟩
  refine nx (sl 0 rfl (sl 1 rfl (sl 5 rfl (sl 7 rfl (sl 15 rfl sn))))) (el 11 rfl en) ?_
  refine tri_false rfl rfl ?_
  refine tri_skip ?_
  refine nx (sl 0 rfl (sl 1 rfl (sl 5 rfl sn))) (el 11 rfl en) ?_
  refine tri_seq ?_
  refine tri_seq ?_
  refine tri_reg mixed hcx ?_ _ _
  refine mv rfl ?_
  refine ln slQs rfl ?_
  refine mv rfl ?_
  refine ix rfl rfl slZss ⟨(rfl : _ = ((0 : Nat) : Int)), by omega⟩ ?_
  refine lf rfl tyZs ?_
  refine ln slZs rfl ?_
  refine cne rfl rfl (decide_eq_true (by omega)) ?_
  refine ⟨by kernel_rfl, ?_⟩
  refine nx (sl 0 rfl (sl 1 rfl (sl 5 rfl (sl 24 rfl sn)))) (el 11 rfl en) ?_
  refine tri_true rfl rfl ?_
  refine tri_seq ?_
  refine tri_reg mixed hcx ?_ _ _
  refine bu stQ rfl ?_
  refine asg rfl ?_
  refine st rfl rfl rfl tyQ rfl ?_
  refine asg rfl ?_
  refine ⟨by kernel_rfl, ?_⟩
  refine nx (sl 4 rfl (sl 5 rfl (sl 6 rfl sn))) (el 11 rfl en) ?_
  refine tri_ret ?_
  repeat (first | refine pn_thenr ?_ | refine pn_blkr ?_)
  exact ret3 hcx rfl (rv_tmp rfl) (rv_cell (c' := cx) (n := 0) rfl rfl tyQ rfl) (rv_tmp rfl) (.refl _) en

theorem g_Coords_rat {b : List (List Int)} {ts : List (Int × Int)} {k : Nat} (hk : k ≤ 1048576) (htl : ts.length ≤ 1048576) (hv : Fn Tryz.prog 8 [T.l (cL (cZi k)) b] [] [] [] (T.c (.int .i64 0))) (h0 : 0 < b.length) {m : Nat} (hm0 : (b.getD 0 []).length = m) (hmm : m ≤ 12) (hts : ts.length = m) {w : Nat} (hw : w < ts.length) (hw1 : ¬ 0 < (ts.getD w (0, 0)).2) (hw2 : ∀ i, i < w → 0 < (ts.getD i (0, 0)).2) : Fn Tryz.prog 4 [T.l (cL (cZi k)) b, T.l (cQi k) ts] [] [] [] (T.tup [T.c (.slice none 0 0), ZQ, T.c (.int .i64 30)]) := by
  refine fn_of Tryz.func4 rfl (by show 2 ≤ 46; decide) fun cx hcx => ?_
  refine tri_sub (sl 0 rfl (sl 1 rfl sn)) en ?_
  have hmz : (b.getD 0 (cL (cZi k)).dflt).length = m := hm0
  refine tri_seq ?_
  refine tri_reg mixed hcx ?_ _ _
  refine asg rfl ?_
  refine nw 11 zeQ ?_
  refine asg rfl ?_
  refine ⟨by kernel_rfl, ?_⟩
  refine nx (sl 0 rfl (sl 1 rfl (sl 5 rfl sn))) (el 11 rfl en) ?_
  refine tri_seq ?_
  refine tri_seq ?_
  refine tri_reg mixed hcx ?_ _ _
  refine mv rfl ?_
  refine ca rfl (h := hv) (hn := ?_)
  refine asg rfl ?_
  refine ⟨by kernel_rfl, ?_⟩
  refine nx (sl 0 rfl (sl 1 rfl (sl 5 rfl (sl 7 rfl sn)))) (el 11 rfl en) ?_
  refine tri_seq ?_
  refine tri_reg mixed hcx ?_ _ _
  refine mv rfl ?_
  refine cne rfl rfl (decide_eq_false (by omega)) ?_
  refine ⟨by kernel_rfl, ?_⟩
  refine nx (sl 0 rfl (sl 1 rfl (sl 5 rfl (sl 7 rfl (sl 15 rfl sn))))) (el 11 rfl en) ?_
  refine tri_false rfl rfl ?_
  refine tri_skip ?_
  refine nx (sl 0 rfl (sl 1 rfl (sl 5 rfl sn))) (el 11 rfl en) ?_
  refine tri_seq ?_
  refine tri_seq ?_
  refine tri_reg mixed hcx ?_ _ _
  refine mv rfl ?_
  refine ln slQs rfl ?_
  refine mv rfl ?_
  refine ix rfl rfl slZss ⟨(rfl : _ = ((0 : Nat) : Int)), by omega⟩ ?_
  refine lf rfl tyZs ?_
  refine ln slZs rfl ?_
  refine cne rfl rfl (decide_eq_false (by omega)) ?_
  refine ⟨by kernel_rfl, ?_⟩
  refine nx (sl 0 rfl (sl 1 rfl (sl 5 rfl (sl 24 rfl sn)))) (el 11 rfl en) ?_
  refine tri_false rfl rfl ?_
  refine tri_skip ?_
  refine nx (sl 0 rfl (sl 1 rfl (sl 5 rfl sn))) (el 11 rfl en) ?_
  refine tri_seq ?_
  refine tri_seq ?_
  refine tri_reg mixed hcx ?_ _ _
  refine mv rfl ?_
  refine ln slQs rfl ?_
  refine mv rfl ?_
  refine ⟨by kernel_rfl, ?_⟩
  refine nx (sl 0 rfl (sl 1 rfl (sl 5 rfl (sl 26 rfl (sl 27 rfl (sl 28 rfl sn)))))) (el 11 rfl en) ?_
  refine tri_block ?_
  refine tri_loop (ι := Nat) (fun i => [(0, T.l (cL (cZi k)) b), (1, T.l (cQi k) ts), (5, T.p 11 0), (26, T.l (cQi k) ts), (27, T.c (.int .i64 (ts.length : Int))), (28, T.c (.int .i64 (i : Int)))]) (fun i => [(11, some (Ent.box 28 [T.c (.bool false), T.c (.slice none 0 0), T.c (.bool false), T.c (.slice none 0 0)]))]) (fun i => ts.length - i) (fun i => (i ≤ w)) 0 (Nat.zero_le _) (sl 0 rfl (sl 1 rfl (sl 5 rfl (sl 26 rfl (sl 27 rfl (sl 28 rfl sn)))))) (el 11 rfl en) ?_
  rintro i hi
  refine tri_sub (sl 0 rfl (sl 1 rfl (sl 5 rfl (sl 26 rfl (sl 27 rfl (sl 28 rfl sn)))))) (el 11 rfl en) ?_
  refine tri_seq ?_
  refine tri_reg mixed hcx ?_ _ _
  refine clt rfl rfl rfl ?_
  refine ⟨by kernel_rfl, ?_⟩
  refine nx (sl 0 rfl (sl 1 rfl (sl 5 rfl (sl 26 rfl (sl 27 rfl (sl 28 rfl (sl 29 rfl sn))))))) (el 11 rfl en) ?_
  refine tri_seq ?_
  refine tri_if rfl (fun hc => ?_) (fun hc => ?_)
  · refine tri_skip ?_
    refine nx (sl 0 rfl (sl 1 rfl (sl 5 rfl (sl 26 rfl (sl 27 rfl (sl 28 rfl sn)))))) (el 11 rfl en) ?_
    refine tri_seq ?_
    refine tri_block ?_
    refine tri_seq ?_
    refine tri_reg mixed hcx ?_ _ _
    refine ix rfl rfl slQs ⟨rfl, by omega⟩ ?_
    refine lf rfl tyQ ?_
    refine nw 812 zeQ ?_
    refine sts (zz := [T.Zi (ts.getD i (cQi k).dflt).1 k, T.Zi (ts.getD i (cQi k).dflt).2 k]) rfl rfl rfl tyQ rfl ?_
    refine ⟨by kernel_rfl, ?_⟩
    refine nx (sl 0 rfl (sl 1 rfl (sl 5 rfl (sl 9 rfl (sl 26 rfl (sl 27 rfl (sl 28 rfl sn))))))) (el 11 rfl (el 812 rfl en)) ?_
    refine tri_seq ?_
    rcases Nat.lt_or_eq_of_le hi with h9 | h9
    · have hsg : sg (ts.getD i (cQi k).dflt).2 = 1 := sg_pos (hw2 i h9)
      refine tri_reg mixed hcx ?_ _ _
      refine fa rfl fDen 2 ?_
      refine ld rfl rfl tyZ rfl ?_
      refine ca rfl (h := zi_Sign (by omega)) (hn := ?_)
      refine cle rfl rfl (decide_eq_false (by omega)) ?_
      refine ⟨by kernel_rfl, ?_⟩
      refine nx (sl 0 rfl (sl 1 rfl (sl 5 rfl (sl 26 rfl (sl 27 rfl (sl 28 rfl (sl 35 rfl sn))))))) (el 11 rfl (el 812 rfl en)) ?_
      refine tri_false rfl rfl ?_
      refine tri_skip ?_
      refine pn_blk ?_
      refine nx (sl 0 rfl (sl 1 rfl (sl 5 rfl (sl 26 rfl (sl 27 rfl (sl 28 rfl sn)))))) (el 11 rfl (el 812 rfl en)) ?_
      refine tri_reg mixed hcx ?_ _ _
      refine ad (((i + 1 : Nat) : Int)) rfl rfl rfl (by omega) ?_
      refine mv rfl ?_
      refine ⟨by kernel_rfl, ?_⟩
      exact pn_back (i + 1) (by first | omega | (dsimp only; omega)) (by omega) (sl 0 rfl (sl 1 rfl (sl 5 rfl (sl 26 rfl (sl 27 rfl (sl 28 rfl sn)))))) (el 11 rfl en)
    · subst h9
      have hsg : sg (ts.getD i (cQi k).dflt).2 ≤ 0 := sg_le.2 (Int.not_lt.1 hw1)
      refine tri_reg mixed hcx ?_ _ _
      refine fa rfl fDen 2 ?_
      refine ld rfl rfl tyZ rfl ?_
      refine ca rfl (h := zi_Sign (by omega)) (hn := ?_)
      refine cle rfl rfl (decide_eq_true (by omega)) ?_
      refine ⟨by kernel_rfl, ?_⟩
      refine nx (sl 0 rfl (sl 1 rfl (sl 5 rfl (sl 26 rfl (sl 27 rfl (sl 28 rfl (sl 35 rfl sn))))))) (el 11 rfl (el 812 rfl en)) ?_
      refine tri_true rfl rfl ?_
      refine tri_seq ?_
      refine tri_reg mixed hcx ?_ _ _
      refine bu stQ rfl ?_
      refine asg rfl ?_
      refine st rfl rfl rfl tyQ rfl ?_
      refine asg rfl ?_
      refine ⟨by kernel_rfl, ?_⟩
      refine nx (sl 4 rfl (sl 5 rfl (sl 6 rfl sn))) (el 11 rfl (el 812 rfl en)) ?_
      refine tri_ret ?_
      repeat (first | refine pn_thenr ?_ | refine pn_blkr ?_)
      exact ret3 hcx rfl (rv_tmp rfl) (rv_cell (c' := cx) (n := 0) rfl rfl tyQ rfl) (rv_tmp rfl) (.refl _) en
  · refine tri_exit ?_
    repeat (first | refine pn_then ?_ | refine pn_oth (by decide) ?_)
    refine pn_ex ?_
    exfalso
    omega

theorem g_Coords_ok {b : List (List Int)} {ts : List (Int × Int)} {k : Nat} (hk : k ≤ 1048576) (htl : ts.length ≤ 1048576) (hv : Fn Tryz.prog 8 [T.l (cL (cZi k)) b] [] [] [] (T.c (.int .i64 0))) (h0 : 0 < b.length) {m : Nat} (hm0 : (b.getD 0 []).length = m) (hmm : m ≤ 12) (hts : ts.length = m) (htp : ∀ i, i < ts.length → 0 < (ts.getD i (0, 0)).2) {c : List (Int × Int)} {d : Rat} (hl : Fn Tryz.prog 10 [T.l (cL (cZi k)) b, T.l (cQi k) ts] [] [] [] (T.tup [T.l (cQp SN) c, T.Q d SN])) : Fn Tryz.prog 4 [T.l (cL (cZi k)) b, T.l (cQi k) ts] [] [] [] (T.tup [T.l (cQp SN) c, T.Q d SN, T.c (.int .i64 0)]) := by
  refine fn_of Tryz.func4 rfl (by show 2 ≤ 46; decide) fun cx hcx => ?_
  refine tri_sub (sl 0 rfl (sl 1 rfl sn)) en ?_
  have hmz : (b.getD 0 (cL (cZi k)).dflt).length = m := hm0
  refine tri_seq ?_
  refine tri_reg mixed hcx ?_ _ _
  refine asg rfl ?_
  refine nw 11 zeQ ?_
  refine asg rfl ?_
  refine ⟨by kernel_rfl, ?_⟩
  refine nx (sl 0 rfl (sl 1 rfl (sl 5 rfl sn))) (el 11 rfl en) ?_
  refine tri_seq ?_
  refine tri_seq ?_
  refine tri_reg mixed hcx ?_ _ _
  refine mv rfl ?_
  refine ca rfl (h := hv) (hn := ?_)
  refine asg rfl ?_
  refine ⟨by kernel_rfl, ?_⟩
  refine nx (sl 0 rfl (sl 1 rfl (sl 5 rfl (sl 7 rfl sn)))) (el 11 rfl en) ?_
  refine tri_seq ?_
  refine tri_reg mixed hcx ?_ _ _
  refine mv rfl ?_
  refine cne rfl rfl (decide_eq_false (by omega)) ?_
  refine ⟨by kernel_rfl, ?_⟩
  refine nx (sl 0 rfl (sl 1 rfl (sl 5 rfl (sl 7 rfl (sl 15 rfl sn))))) (el 11 rfl en) ?_
  refine tri_false rfl rfl ?_
  refine tri_skip ?_
  refine nx (sl 0 rfl (sl 1 rfl (sl 5 rfl sn))) (el 11 rfl en) ?_
  refine tri_seq ?_
  refine tri_seq ?_
  refine tri_reg mixed hcx ?_ _ _
  refine mv rfl ?_
  refine ln slQs rfl ?_
  refine mv rfl ?_
  refine ix rfl rfl slZss ⟨(rfl : _ = ((0 : Nat) : Int)), by omega⟩ ?_
  refine lf rfl tyZs ?_
  refine ln slZs rfl ?_
  refine cne rfl rfl (decide_eq_false (by omega)) ?_
  refine ⟨by kernel_rfl, ?_⟩
  refine nx (sl 0 rfl (sl 1 rfl (sl 5 rfl (sl 24 rfl sn)))) (el 11 rfl en) ?_
  refine tri_false rfl rfl ?_
  refine tri_skip ?_
  refine nx (sl 0 rfl (sl 1 rfl (sl 5 rfl sn))) (el 11 rfl en) ?_
  refine tri_seq ?_
  refine tri_seq ?_
  refine tri_reg mixed hcx ?_ _ _
  refine mv rfl ?_
  refine ln slQs rfl ?_
  refine mv rfl ?_
  refine ⟨by kernel_rfl, ?_⟩
  refine nx (sl 0 rfl (sl 1 rfl (sl 5 rfl (sl 26 rfl (sl 27 rfl (sl 28 rfl sn)))))) (el 11 rfl en) ?_
  refine tri_block ?_
  refine tri_loop (ι := Nat) (fun i => [(0, T.l (cL (cZi k)) b), (1, T.l (cQi k) ts), (5, T.p 11 0), (26, T.l (cQi k) ts), (27, T.c (.int .i64 (ts.length : Int))), (28, T.c (.int .i64 (i : Int)))]) (fun i => [(11, some (Ent.box 28 [T.c (.bool false), T.c (.slice none 0 0), T.c (.bool false), T.c (.slice none 0 0)]))]) (fun i => ts.length - i) (fun i => (i ≤ ts.length)) 0 (Nat.zero_le _) (sl 0 rfl (sl 1 rfl (sl 5 rfl (sl 26 rfl (sl 27 rfl (sl 28 rfl sn)))))) (el 11 rfl en) ?_
  rintro i hi
  refine tri_sub (sl 0 rfl (sl 1 rfl (sl 5 rfl (sl 26 rfl (sl 27 rfl (sl 28 rfl sn)))))) (el 11 rfl en) ?_
  refine tri_seq ?_
  refine tri_reg mixed hcx ?_ _ _
  refine clt rfl rfl rfl ?_
  refine ⟨by kernel_rfl, ?_⟩
  refine nx (sl 0 rfl (sl 1 rfl (sl 5 rfl (sl 26 rfl (sl 27 rfl (sl 28 rfl (sl 29 rfl sn))))))) (el 11 rfl en) ?_
  refine tri_seq ?_
  refine tri_if rfl (fun hc => ?_) (fun hc => ?_)
  · have hsg : sg (ts.getD i (cQi k).dflt).2 = 1 := sg_pos (htp i (by omega))
    refine tri_skip ?_
    refine nx (sl 0 rfl (sl 1 rfl (sl 5 rfl (sl 26 rfl (sl 27 rfl (sl 28 rfl sn)))))) (el 11 rfl en) ?_
    refine tri_seq ?_
    refine tri_block ?_
    refine tri_seq ?_
    refine tri_reg mixed hcx ?_ _ _
    refine ix rfl rfl slQs ⟨rfl, by omega⟩ ?_
    refine lf rfl tyQ ?_
    refine nw 812 zeQ ?_
    refine sts (zz := [T.Zi (ts.getD i (cQi k).dflt).1 k, T.Zi (ts.getD i (cQi k).dflt).2 k]) rfl rfl rfl tyQ rfl ?_
    refine ⟨by kernel_rfl, ?_⟩
    refine nx (sl 0 rfl (sl 1 rfl (sl 5 rfl (sl 9 rfl (sl 26 rfl (sl 27 rfl (sl 28 rfl sn))))))) (el 11 rfl (el 812 rfl en)) ?_
    refine tri_seq ?_
    refine tri_reg mixed hcx ?_ _ _
    refine fa rfl fDen 2 ?_
    refine ld rfl rfl tyZ rfl ?_
    refine ca rfl (h := zi_Sign (by omega)) (hn := ?_)
    refine cle rfl rfl (decide_eq_false (by omega)) ?_
    refine ⟨by kernel_rfl, ?_⟩
    refine nx (sl 0 rfl (sl 1 rfl (sl 5 rfl (sl 26 rfl (sl 27 rfl (sl 28 rfl (sl 35 rfl sn))))))) (el 11 rfl (el 812 rfl en)) ?_
    refine tri_false rfl rfl ?_
    refine tri_skip ?_
    refine pn_blk ?_
    refine nx (sl 0 rfl (sl 1 rfl (sl 5 rfl (sl 26 rfl (sl 27 rfl (sl 28 rfl sn)))))) (el 11 rfl (el 812 rfl en)) ?_
    refine tri_reg mixed hcx ?_ _ _
    refine ad (((i + 1 : Nat) : Int)) rfl rfl rfl (by omega) ?_
    refine mv rfl ?_
    refine ⟨by kernel_rfl, ?_⟩
    exact pn_back (i + 1) (by first | omega | (dsimp only; omega)) (by omega) (sl 0 rfl (sl 1 rfl (sl 5 rfl (sl 26 rfl (sl 27 rfl (sl 28 rfl sn)))))) (el 11 rfl en)
  · refine tri_exit ?_
    repeat (first | refine pn_then ?_ | refine pn_oth (by decide) ?_)
    refine pn_ex ?_
    refine nx (sl 0 rfl (sl 1 rfl (sl 5 rfl sn))) (el 11 rfl en) ?_
    refine tri_seq ?_
    refine tri_reg mixed hcx ?_ _ _
    refine mv rfl ?_
    refine mv rfl ?_
    refine ca rfl (h := hl) (hn := ?_)
    refine mv rfl ?_
    refine ex rfl rfl ?_
    refine ex rfl rfl ?_
    refine nw 1216 zeQ ?_
    refine asg rfl ?_
    refine st rfl rfl rfl tyQ rfl ?_
    refine ⟨by kernel_rfl, ?_⟩
    refine nx (sl 5 rfl (sl 10 rfl (sl 11 rfl sn))) (el 11 rfl (el 1216 rfl en)) ?_
    refine tri_seq ?_
    refine tri_reg mixed hcx ?_ _ _
    refine mv rfl ?_
    refine ld rfl rfl tyQ rfl ?_
    refine asg rfl ?_
    refine st rfl rfl rfl tyQ rfl ?_
    refine asg rfl ?_
    refine ⟨by kernel_rfl, ?_⟩
    refine nx (sl 4 rfl (sl 5 rfl (sl 6 rfl sn))) (el 11 rfl (el 1216 rfl en)) ?_
    refine tri_ret ?_
    repeat (first | refine pn_thenr ?_ | refine pn_blkr ?_)
    exact ret3 hcx rfl (rv_tmp rfl) (rv_cell (c' := cx) (n := 0) rfl rfl tyQ rfl) (rv_tmp rfl) (.refl _) en

end Go.Proofs.YtmfgnbchehnpjaaGreat.V
/- The nearest point: the law. -/
set_option linter.unusedVariables false
set_option linter.unusedSimpArgs false
set_option maxRecDepth 100000
namespace Go.Proofs.YtmfgnbchehnpjaaGreat.V
open Go.RowKit Mt Nml
theorem cells_qz {k : Nat} {u : World} : ∀ {l : List (Int × Int)} {cs : List Value}, Cells B0 u (l.map (cQi k).X) cs → ∀ q ∈ l, zl q.1 ≤ k ∧ zl q.2 ≤ k
  | [], _, _, q, h => by cases h
  | a :: r, cs, ⟨v, rest, _, ⟨ys, _, v1, r1, _, h1, _, v2, r2, _, h3, _⟩, _, h2⟩, q, h => by
    rcases List.mem_cons.1 h with rfl | h
    · exact ⟨zi_zl h1, zi_zl h3⟩
    · exact cells_qz h2 q h
theorem l_qz {k : Nat} {β : Env} {u : World} {l : List (Int × Int)} {v : Value} (h : (T.l (cQi k) l).rep β u v) : ∀ q ∈ l, zl q.1 ≤ k ∧ zl q.2 ≤ k := fun q hq => by
  obtain ⟨A, n, c, _, h1, _, _, h4⟩ := h
  have hp : 0 < n := by rw [← h1]; exact List.length_pos_of_mem hq
  obtain ⟨ad, _, xs, h5, _⟩ := h4 hp
  exact cells_qz h5 q hq
theorem fn_qz {P : Program} {f : FuncId} {A R : T} {ts : List (Int × Int)} {k : Nat} {Ei Eo : List (Nat × Ent)} {N : List Nat} (h : (∀ i, i < ts.length → zl (ts.getD i (0, 0)).1 ≤ k ∧ zl (ts.getD i (0, 0)).2 ≤ k) → Fn P f [A, T.l (cQi k) ts] Ei Eo N R) : Fn P f [A, T.l (cQi k) ts] Ei Eo N R := fun vs β u w F hs hr hH => by
  match vs, hr with
  | [v0, v1], ⟨r0, r1, r2⟩ =>
    refine h (fun i hi => ?_) _ β u w F hs ⟨r0, r1, r2⟩ hH
    have := l_qz r1 (ts.getD i (0, 0)) (by rw [List.getD_eq_getElem?_getD, List.getElem?_eq_getElem hi]; exact List.getElem_mem hi)
    exact this
/-- Everything that is known of a basis's data. -/
theorem data_of {b : List (List Int)} {D : List Int} {L : List (List Int)} (hR : ShR b true 0) (h : bld b b.length = some (D, L)) : DI b b.length D L ∧ (∀ k, k ≤ b.length → zl (D.getD k 0) ≤ 839679) ∧ (∀ i j, i < b.length → j < i → zl ((L.getD i []).getD j 0) ≤ 839679) ∧ (∀ k, k ≤ b.length → 0 < D.getD k 0) ∧ GoodP D L ∧ L.length = b.length ∧ (∀ i j, zl ((b.getD i []).getD j 0) ≤ 8) := by
  obtain ⟨h0, hb, hm, hm12, hbits⟩ := shr_basis hR
  have hS := val_S hbits (fun i hi => by rw [hm i hi]; exact hm12)
  have hB := bld_BI hS (Nat.le_refl _) h
  have hI := bld_DI h
  have hle : ∀ k, k ≤ 12 → bd 204 k ≤ 839679 := fun k hk => Nat.le_trans (bd_mono hk) (by decide)
  refine ⟨hI, fun k hk => ?_, fun i j hi hj => ?_, hB.pos, hI.good h0, hI.lL, ent_bits hbits⟩
  · cases k with
    | zero =>
      rw [(hI.good h0).2.2.1]
      exact Nat.le_trans zl_one (by decide)
    | succ k => exact Nat.le_trans (hB.bD k (by omega)) (hle k (by omega))
  · exact Nat.le_trans (hB.bL i j hi hj) (hle j (by omega))
theorem den_bad {ts : List (Int × Int)} (h : ¬ ∀ i, i < ts.length → 0 < (ts.getD i (0, 0)).2) : ∃ w, w < ts.length ∧ ¬ 0 < (ts.getD w (0, 0)).2 ∧ ∀ i, i < w → 0 < (ts.getD i (0, 0)).2 := by
  have h' : ∃ w, w < ts.length ∧ ¬ 0 < (ts.getD w (0, 0)).2 := Classical.byContradiction fun hn => h fun i hi => Classical.byContradiction fun hc => hn ⟨i, hi, hc⟩
  obtain ⟨w, ⟨h1, h2⟩, h3⟩ := least (fun i => i < ts.length ∧ ¬ 0 < (ts.getD i (0, 0)).2) h'
  refine ⟨w, h1, h2, fun i hi => Classical.byContradiction fun hc => ?_⟩
  have := h3 i ⟨by omega, hc⟩
  omega
end Go.Proofs.YtmfgnbchehnpjaaGreat.V
/- The document: the nearest point. -/
set_option linter.unusedVariables false
set_option linter.unusedSimpArgs false
set_option maxRecDepth 100000
namespace Go.Proofs.YtmfgnbchehnpjaaGreat.V
open Go.RowKit Mt Nml
theorem r03_DivG {a b c d : Int} {k l : Nat} (hb0 : b ≠ 0) (hd0 : d ≠ 0) (hc0 : c ≠ 0) (hk : k ≤ 17179869184) (hl : l ≤ 17179869184) : Fn Tryz.prog 19 [T.Qi a b k, T.Qi c d l] [] [] [] (T.Q ((a : Rat) / (b : Rat) / ((c : Rat) / (d : Rat))) (2 * (k + l))) := by
  refine fn_of Tryz.func19 rfl (by show 2 ≤ 16; decide) fun cx hcx => ?_
  refine tri_sub (sl 0 rfl (sl 1 rfl sn)) en ?_
  have hbc0 : b * c ≠ 0 := Int.mul_ne_zero hb0 hc0
  refine tri_seq ?_
  refine tri_reg mixed hcx ?_ _ _
  refine bxs 10 rfl ?_
  refine bxs 11 rfl ?_
  refine nw 12 zeQ ?_
  refine ⟨by kernel_rfl, ?_⟩
  refine nx (sl 2 rfl (sl 3 rfl (sl 4 rfl sn))) (el 10 rfl (el 11 rfl (el 12 rfl en))) ?_
  refine tri_seq ?_
  refine tri_reg mixed hcx ?_ _ _
  refine fa rfl fNum 0 ?_
  refine ld rfl rfl tyZ rfl ?_
  refine fa rfl fDen 2 ?_
  refine ld rfl rfl tyZ rfl ?_
  refine ca rfl (h := r02_Mul (by omega) (by omega)) (hn := ?_)
  refine fa rfl fDen 2 ?_
  refine ld rfl rfl tyZ rfl ?_
  refine fa rfl fNum 0 ?_
  refine ld rfl rfl tyZ rfl ?_
  refine ca rfl (h := r02_Mul (by omega) (by omega)) (hn := ?_)
  refine ca rfl (h := r03_Make (by first | assumption | omega) (by omega) (by omega)) (hn := ?_)
  refine st rfl rfl rfl tyQ rfl ?_
  refine ⟨by kernel_rfl, ?_⟩
  refine nx (sl 4 rfl sn) (el 10 rfl (el 11 rfl (el 12 rfl en))) ?_
  refine tri_ret ?_
  repeat (first | refine pn_thenr ?_ | refine pn_blkr ?_)
  exact ret1 hcx rfl (rv_cell (c' := cx) (n := 0) rfl rfl tyQ rfl) (q_eq (rat_divG hb0 hc0 hd0) (by omega)) en

theorem r3v_Div {x y : Rat} {k l : Nat} (hk : k ≤ 17179869184) (hl : l ≤ 17179869184) (hy : y ≠ 0) : Fn Tryz.prog 19 [T.V x k, T.V y l] [] [] [] (T.Q (x / y) (k + l)) := fn_v [] fun p p1 p2 p3 p4 => fn_v [T.Qi p.1 p.2 k] (Bs := []) fun q q1 q2 q3 q4 => fn_out (r03_DivG (by omega) (by omega) (v_num hy q2) hk hl) (q_qb (by rw [p2, q2]) (QB.divv p1 q1 (v_num hy q2) p2 q2 p3 p4 q3 q4))

theorem r05_squareV {x : Rat} {k : Nat} (hk : k ≤ 8589934592) : Fn Tryz.prog 18 [T.V x k] [] [] [] (T.Q (x * x) (k + k)) := by
  refine fn_of Tryz.func18 rfl (by show 1 ≤ 6; decide) fun cx hcx => ?_
  refine tri_sub (sl 0 rfl sn) en ?_
  refine tri_seq ?_
  refine tri_reg mixed hcx ?_ _ _
  refine bx 10 rfl ?_
  refine nw 11 zeQ ?_
  refine ⟨by kernel_rfl, ?_⟩
  refine nx (sl 1 rfl (sl 2 rfl sn)) (el 10 rfl (el 11 rfl en)) ?_
  refine tri_seq ?_
  refine tri_reg mixed hcx ?_ _ _
  refine ld rfl rfl tyQ rfl ?_
  refine ld rfl rfl tyQ rfl ?_
  refine cb rfl (h := r3v_Mul (by omega) (by omega)) (hn := ?_)
  refine st rfl rfl rfl tyQ rfl ?_
  refine ⟨by kernel_rfl, ?_⟩
  refine nx (sl 2 rfl sn) (el 10 rfl (el 11 rfl en)) ?_
  refine tri_ret ?_
  repeat (first | refine pn_thenr ?_ | refine pn_blkr ?_)
  exact ret1 hcx rfl (rv_cell (c' := cx) (n := 0) rfl rfl tyQ rfl) (.refl _) en

theorem r05_timesV {x : Rat} {z : Int} {k l : Nat} (hk : k ≤ 8589934592) (hl : l ≤ 8589934592) : Fn Tryz.prog 40 [T.V x k, T.Zi z l] [] [] [] (T.Q (x * (z : Rat)) (k + (l + 2))) := by
  refine fn_of Tryz.func40 rfl (by show 2 ≤ 9; decide) fun cx hcx => ?_
  refine tri_sub (sl 0 rfl (sl 1 rfl sn)) en ?_
  refine tri_seq ?_
  refine tri_reg mixed hcx ?_ _ _
  refine bx 10 rfl ?_
  refine bx 11 rfl ?_
  refine nw 12 zeQ ?_
  refine ⟨by kernel_rfl, ?_⟩
  refine nx (sl 2 rfl (sl 3 rfl (sl 4 rfl sn))) (el 10 rfl (el 11 rfl (el 12 rfl en))) ?_
  refine tri_seq ?_
  refine tri_reg mixed hcx ?_ _ _
  refine ld rfl rfl tyQ rfl ?_
  refine ld rfl rfl tyZ rfl ?_
  refine ca rfl (h := r03_Of (by omega)) (hn := ?_)
  refine cb rfl (h := r3v_Mul (by omega) (by omega)) (hn := ?_)
  refine st rfl rfl rfl tyQ rfl ?_
  refine ⟨by kernel_rfl, ?_⟩
  refine nx (sl 4 rfl sn) (el 10 rfl (el 11 rfl (el 12 rfl en))) ?_
  refine tri_ret ?_
  repeat (first | refine pn_thenr ?_ | refine pn_blkr ?_)
  exact ret1 hcx rfl (rv_cell (c' := cx) (n := 0) rfl rfl tyQ rfl) (.refl _) en

theorem r05_along {ts : List (Int × Int)} {r : List Int} {k S : Nat} (hl : r.length = ts.length) (htl : ts.length ≤ 1048576) (hp : ∀ i, i < ts.length → 0 < (ts.getD i (0, 0)).2) (hk : k ≤ 1073741824) (hS : S ≤ 1073741824) (hQ : ∀ i, i ≤ r.length → QB (alq ts r i) S) : Fn Tryz.prog 13 [T.l (cQi k) ts, T.l (cZi k) r] [] [] [] (T.Q (alq ts r r.length) S) := by
  refine fn_of Tryz.func13 rfl (by show 2 ≤ 27; decide) fun cx hcx => ?_
  refine tri_sub (sl 0 rfl (sl 1 rfl sn)) en ?_
  refine tri_seq ?_
  refine tri_reg mixed hcx ?_ _ _
  refine nw 10 zeQ ?_
  refine ⟨by kernel_rfl, ?_⟩
  refine nx (sl 0 rfl (sl 1 rfl (sl 4 rfl sn))) (el 10 rfl en) ?_
  refine tri_seq ?_
  refine tri_reg mixed hcx ?_ _ _
  refine bu stZ rfl ?_
  refine ca rfl (h := r03_Of (by omega)) (hn := ?_)
  refine nw 112 zeQ ?_
  refine st rfl rfl rfl tyQ rfl ?_
  refine ⟨by kernel_rfl, ?_⟩
  refine nx (sl 0 rfl (sl 1 rfl (sl 4 rfl (sl 5 rfl sn)))) (el 10 rfl (el 112 rfl en)) ?_
  refine tri_seq ?_
  refine tri_seq ?_
  refine tri_reg mixed hcx ?_ _ _
  refine asg rfl ?_
  refine ⟨by kernel_rfl, ?_⟩
  refine nx (sl 0 rfl (sl 1 rfl (sl 4 rfl (sl 5 rfl (sl 6 rfl sn))))) (el 10 rfl (el 112 rfl en)) ?_
  refine tri_block ?_
  refine tri_loop (ι := Nat) (fun i => [(0, T.l (cQi k) ts), (1, T.l (cZi k) r), (4, T.p 10 0), (5, T.p 112 0), (6, T.c (.int .i64 (i : Int)))]) (fun i => [(10, some (Ent.box 28 [T.c (.bool false), T.c (.slice none 0 0), T.c (.bool false), T.c (.slice none 0 0)])), (112, some (Ent.box 28 [T.Q (alq ts r i) (S)]))]) (fun i => ts.length - i) (fun i => (i ≤ ts.length)) 0 (Nat.zero_le _) (sl 0 rfl (sl 1 rfl (sl 4 rfl (sl 5 rfl (sl 6 rfl sn))))) (el 10 rfl (ew 112 rfl (box_q (q_qb (by rfl) (hQ 0 (Nat.zero_le _)))) en)) ?_
  rintro i hi
  refine tri_sub (sl 0 rfl (sl 1 rfl (sl 4 rfl (sl 5 rfl (sl 6 rfl sn))))) (el 10 rfl (el 112 rfl en)) ?_
  refine tri_seq ?_
  refine tri_seq ?_
  refine tri_reg mixed hcx ?_ _ _
  refine mv rfl ?_
  refine mv rfl ?_
  refine ln slQs rfl ?_
  refine clt rfl rfl rfl ?_
  refine ⟨by kernel_rfl, ?_⟩
  refine nx (sl 0 rfl (sl 1 rfl (sl 4 rfl (sl 5 rfl (sl 6 rfl (sl 12 rfl sn)))))) (el 10 rfl (el 112 rfl en)) ?_
  refine tri_if rfl (fun hc => ?_) (fun hc => ?_)
  · have hpi := hp i (by omega)
    refine tri_skip ?_
    refine nx (sl 0 rfl (sl 1 rfl (sl 4 rfl (sl 5 rfl (sl 6 rfl sn))))) (el 10 rfl (el 112 rfl en)) ?_
    refine tri_seq ?_
    refine tri_block ?_
    refine tri_reg mixed hcx ?_ _ _
    refine ld rfl rfl tyQ rfl ?_
    refine mv rfl ?_
    refine mv rfl ?_
    refine ix rfl rfl slQs ⟨rfl, by omega⟩ ?_
    refine lfx (X := T.V (tq ts i) k) rfl tyQ (cqi_v hpi) ?_
    refine mv rfl ?_
    refine mv rfl ?_
    refine ix rfl rfl slZs ⟨rfl, by omega⟩ ?_
    refine lf rfl tyZ ?_
    refine cb rfl (h := r05_timesV (by omega) (by omega)) (hn := ?_)
    refine cb rfl (h := r3v_Add (by omega) (by omega)) (hn := ?_)
    refine st rfl rfl rfl tyQ rfl ?_
    refine ⟨by kernel_rfl, ?_⟩
    refine pn_blk ?_
    refine nx (sl 0 rfl (sl 1 rfl (sl 4 rfl (sl 5 rfl (sl 6 rfl sn))))) (el 10 rfl (el 112 rfl en)) ?_
    refine tri_reg mixed hcx ?_ _ _
    refine mv rfl ?_
    refine ad (((i + 1 : Nat) : Int)) rfl rfl rfl (by omega) ?_
    refine asg rfl ?_
    refine ⟨by kernel_rfl, ?_⟩
    exact pn_back (i + 1) (by first | omega | (dsimp only; omega)) (by omega) (sl 0 rfl (sl 1 rfl (sl 4 rfl (sl 5 rfl (sl 6 rfl sn))))) (el 10 rfl (ew 112 rfl (box_q (q_qb rfl (hQ (i + 1) (by omega)))) en))
  · refine tri_exit ?_
    repeat (first | refine pn_then ?_ | refine pn_oth (by decide) ?_)
    refine pn_ex ?_
    have hir : i = r.length := by omega
    refine nx (sl 4 rfl (sl 5 rfl sn)) (el 10 rfl (el 112 rfl en)) ?_
    refine tri_seq ?_
    refine tri_reg mixed hcx ?_ _ _
    refine ld rfl rfl tyQ rfl ?_
    refine st rfl rfl rfl tyQ rfl ?_
    refine ⟨by kernel_rfl, ?_⟩
    refine nx (sl 4 rfl sn) (el 10 rfl (el 112 rfl en)) ?_
    refine tri_ret ?_
    repeat (first | refine pn_thenr ?_ | refine pn_blkr ?_)
    exact ret1 hcx rfl (rv_cell (c' := cx) (n := 0) rfl rfl tyQ rfl) (q_eq (by rw [hir]) (Nat.le_refl _)) en

theorem r05_Coords_err {b : List (List Int)} {ts : List (Int × Int)} {k : Nat} (hk : k ≤ 1048576) (htl : ts.length ≤ 1048576) {r : Int} {Z : T} (hv : Fn Tryz.prog 11 [T.l (cL (cZi k)) b, T.c (.bool true)] [] [] [] (T.tup [T.st [T.c (.slice none 0 0), T.c (.slice none 0 0)], T.c (.int .i64 r)])) (hr : r ≠ 0) : Fn Tryz.prog 5 [T.l (cL (cZi k)) b, T.l (cQi k) ts] [] [] [] (T.tup [T.c (.slice none 0 0), ZQ, T.c (.int .i64 r)]) := by
  refine fn_of Tryz.func5 rfl (by show 2 ≤ 159; decide) fun cx hcx => ?_
  refine tri_sub (sl 0 rfl (sl 1 rfl sn)) en ?_
  refine tri_seq ?_
  refine tri_reg mixed hcx ?_ _ _
  refine asg rfl ?_
  refine nw 11 zeQ ?_
  refine asg rfl ?_
  refine ⟨by kernel_rfl, ?_⟩
  refine nx (sl 0 rfl (sl 1 rfl (sl 5 rfl sn))) (el 11 rfl en) ?_
  refine tri_seq ?_
  refine tri_reg mixed hcx ?_ _ _
  refine mv rfl ?_
  refine ca rfl (h := hv) (hn := ?_)
  refine mv rfl ?_
  refine ex rfl rfl ?_
  refine ex rfl rfl ?_
  refine nw 115 zeR ?_
  refine sts rfl rfl rfl tyR rfl ?_
  refine asg rfl ?_
  refine ⟨by kernel_rfl, ?_⟩
  refine nx (sl 0 rfl (sl 1 rfl (sl 5 rfl (sl 7 rfl (sl 8 rfl sn))))) (el 11 rfl (el 115 rfl en)) ?_
  refine tri_seq ?_
  refine tri_seq ?_
  refine tri_reg mixed hcx ?_ _ _
  refine mv rfl ?_
  refine cne rfl rfl (decide_eq_true hr) ?_
  refine ⟨by kernel_rfl, ?_⟩
  refine nx (sl 0 rfl (sl 1 rfl (sl 5 rfl (sl 7 rfl (sl 8 rfl (sl 27 rfl sn)))))) (el 11 rfl (el 115 rfl en)) ?_
  refine tri_true rfl rfl ?_
  refine tri_seq ?_
  refine tri_reg mixed hcx ?_ _ _
  refine bu stQ rfl ?_
  refine mv rfl ?_
  refine asg rfl ?_
  refine st rfl rfl rfl tyQ rfl ?_
  refine asg rfl ?_
  refine ⟨by kernel_rfl, ?_⟩
  refine nx (sl 4 rfl (sl 5 rfl (sl 6 rfl sn))) (el 11 rfl (el 115 rfl en)) ?_
  refine tri_ret ?_
  repeat (first | refine pn_thenr ?_ | refine pn_blkr ?_)
  exact ret3 hcx rfl (rv_tmp rfl) (rv_cell (c' := cx) (n := 0) rfl rfl tyQ rfl) (rv_tmp rfl) (.refl _) en

theorem r05_Coords_shape {b : List (List Int)} {ts : List (Int × Int)} {k K : Nat} (hk : k ≤ 1048576) (htl : ts.length ≤ 1048576) (hv : Fn Tryz.prog 11 [T.l (cL (cZi k)) b, T.c (.bool true)] [] [] [] (T.tup [T.st [T.l (cL (cQ K)) (ML b b.length), T.l (cQ K) (SL b b.length)], T.c (.int .i64 0)])) (h0 : 0 < b.length) {m : Nat} (hm0 : (b.getD 0 []).length = m) (hmm : m ≤ 12) (hts : ts.length ≠ m) : Fn Tryz.prog 5 [T.l (cL (cZi k)) b, T.l (cQi k) ts] [] [] [] (T.tup [T.c (.slice none 0 0), ZQ, T.c (.int .i64 8)]) := by
  refine fn_of Tryz.func5 rfl (by show 2 ≤ 159; decide) fun cx hcx => ?_
  refine tri_sub (sl 0 rfl (sl 1 rfl sn)) en ?_
  have hmz : (b.getD 0 (cL (cZi k)).dflt).length = m := hm0
  refine tri_seq ?_
  refine tri_reg mixed hcx ?_ _ _
  refine asg rfl ?_
  refine nw 11 zeQ ?_
  refine asg rfl ?_
  refine ⟨by kernel_rfl, ?_⟩
  refine nx (sl 0 rfl (sl 1 rfl (sl 5 rfl sn))) (el 11 rfl en) ?_
  refine tri_seq ?_
  refine tri_reg mixed hcx ?_ _ _
  refine mv rfl ?_
  refine ca rfl (h := hv) (hn := ?_)
  refine mv rfl ?_
  refine ex rfl rfl ?_
  refine ex rfl rfl ?_
  refine nw 115 zeR ?_
  refine sts rfl rfl rfl tyR rfl ?_
  refine asg rfl ?_
  refine ⟨by kernel_rfl, ?_⟩
  refine nx (sl 0 rfl (sl 1 rfl (sl 5 rfl (sl 7 rfl (sl 8 rfl sn))))) (el 11 rfl (el 115 rfl en)) ?_
  refine tri_seq ?_
  refine tri_seq ?_
  refine tri_reg mixed hcx ?_ _ _
  refine mv rfl ?_
  refine cne rfl rfl (decide_eq_false (by omega)) ?_
  refine ⟨by kernel_rfl, ?_⟩
  refine nx (sl 0 rfl (sl 1 rfl (sl 5 rfl (sl 7 rfl (sl 8 rfl (sl 27 rfl sn)))))) (el 11 rfl (el 115 rfl en)) ?_
  refine tri_false rfl rfl ?_
  refine tri_skip ?_
  refine nx (sl 0 rfl (sl 1 rfl (sl 5 rfl (sl 7 rfl sn)))) (el 11 rfl (el 115 rfl en)) ?_
  refine tri_seq ?_
  refine tri_seq ?_
  refine tri_reg mixed hcx ?_ _ _
  refine mv rfl ?_
  refine ln slQs rfl ?_
  refine mv rfl ?_
  refine ix rfl rfl slZss ⟨(rfl : _ = ((0 : Nat) : Int)), by omega⟩ ?_
  refine lf rfl tyZs ?_
  refine ln slZs rfl ?_
  refine cne rfl rfl (decide_eq_true (by omega)) ?_
  refine ⟨by kernel_rfl, ?_⟩
  refine nx (sl 0 rfl (sl 1 rfl (sl 5 rfl (sl 7 rfl (sl 36 rfl sn))))) (el 11 rfl (el 115 rfl en)) ?_
  refine tri_true rfl rfl ?_
  refine tri_seq ?_
  refine tri_reg mixed hcx ?_ _ _
  refine bu stQ rfl ?_
  refine asg rfl ?_
  refine st rfl rfl rfl tyQ rfl ?_
  refine asg rfl ?_
  refine ⟨by kernel_rfl, ?_⟩
  refine nx (sl 4 rfl (sl 5 rfl (sl 6 rfl sn))) (el 11 rfl (el 115 rfl en)) ?_
  refine tri_ret ?_
  repeat (first | refine pn_thenr ?_ | refine pn_blkr ?_)
  exact ret3 hcx rfl (rv_tmp rfl) (rv_cell (c' := cx) (n := 0) rfl rfl tyQ rfl) (rv_tmp rfl) (.refl _) en

theorem r05_Coords_rat {b : List (List Int)} {ts : List (Int × Int)} {k K : Nat} (hk : k ≤ 1048576) (htl : ts.length ≤ 1048576) (hv : Fn Tryz.prog 11 [T.l (cL (cZi k)) b, T.c (.bool true)] [] [] [] (T.tup [T.st [T.l (cL (cQ K)) (ML b b.length), T.l (cQ K) (SL b b.length)], T.c (.int .i64 0)])) (h0 : 0 < b.length) {m : Nat} (hm0 : (b.getD 0 []).length = m) (hmm : m ≤ 12) (hts : ts.length = m) {w : Nat} (hw : w < ts.length) (hw1 : ¬ 0 < (ts.getD w (0, 0)).2) (hw2 : ∀ i, i < w → 0 < (ts.getD i (0, 0)).2) : Fn Tryz.prog 5 [T.l (cL (cZi k)) b, T.l (cQi k) ts] [] [] [] (T.tup [T.c (.slice none 0 0), ZQ, T.c (.int .i64 30)]) := by
  refine fn_of Tryz.func5 rfl (by show 2 ≤ 159; decide) fun cx hcx => ?_
  refine tri_sub (sl 0 rfl (sl 1 rfl sn)) en ?_
  have hmz : (b.getD 0 (cL (cZi k)).dflt).length = m := hm0
  refine tri_seq ?_
  refine tri_reg mixed hcx ?_ _ _
  refine asg rfl ?_
  refine nw 11 zeQ ?_
  refine asg rfl ?_
  refine ⟨by kernel_rfl, ?_⟩
  refine nx (sl 0 rfl (sl 1 rfl (sl 5 rfl sn))) (el 11 rfl en) ?_
  refine tri_seq ?_
  refine tri_reg mixed hcx ?_ _ _
  refine mv rfl ?_
  refine ca rfl (h := hv) (hn := ?_)
  refine mv rfl ?_
  refine ex rfl rfl ?_
  refine ex rfl rfl ?_
  refine nw 115 zeR ?_
  refine sts rfl rfl rfl tyR rfl ?_
  refine asg rfl ?_
  refine ⟨by kernel_rfl, ?_⟩
  refine nx (sl 0 rfl (sl 1 rfl (sl 5 rfl (sl 7 rfl (sl 8 rfl sn))))) (el 11 rfl (el 115 rfl en)) ?_
  refine tri_seq ?_
  refine tri_seq ?_
  refine tri_reg mixed hcx ?_ _ _
  refine mv rfl ?_
  refine cne rfl rfl (decide_eq_false (by omega)) ?_
  refine ⟨by kernel_rfl, ?_⟩
  refine nx (sl 0 rfl (sl 1 rfl (sl 5 rfl (sl 7 rfl (sl 8 rfl (sl 27 rfl sn)))))) (el 11 rfl (el 115 rfl en)) ?_
  refine tri_false rfl rfl ?_
  refine tri_skip ?_
  refine nx (sl 0 rfl (sl 1 rfl (sl 5 rfl (sl 7 rfl sn)))) (el 11 rfl (el 115 rfl en)) ?_
  refine tri_seq ?_
  refine tri_seq ?_
  refine tri_reg mixed hcx ?_ _ _
  refine mv rfl ?_
  refine ln slQs rfl ?_
  refine mv rfl ?_
  refine ix rfl rfl slZss ⟨(rfl : _ = ((0 : Nat) : Int)), by omega⟩ ?_
  refine lf rfl tyZs ?_
  refine ln slZs rfl ?_
  refine cne rfl rfl (decide_eq_false (by omega)) ?_
  refine ⟨by kernel_rfl, ?_⟩
  refine nx (sl 0 rfl (sl 1 rfl (sl 5 rfl (sl 7 rfl (sl 36 rfl sn))))) (el 11 rfl (el 115 rfl en)) ?_
  refine tri_false rfl rfl ?_
  refine tri_skip ?_
  refine nx (sl 0 rfl (sl 1 rfl (sl 5 rfl (sl 7 rfl sn)))) (el 11 rfl (el 115 rfl en)) ?_
  refine tri_seq ?_
  refine tri_seq ?_
  refine tri_reg mixed hcx ?_ _ _
  refine asg rfl ?_
  refine ⟨by kernel_rfl, ?_⟩
  refine nx (sl 0 rfl (sl 1 rfl (sl 5 rfl (sl 7 rfl (sl 9 rfl sn))))) (el 11 rfl (el 115 rfl en)) ?_
  refine tri_block ?_
  refine tri_loop (ι := Nat) (fun i => [(0, T.l (cL (cZi k)) b), (1, T.l (cQi k) ts), (5, T.p 11 0), (7, T.p 115 0), (9, T.c (.int .i64 (i : Int)))]) (fun i => [(11, some (Ent.box 28 [T.c (.bool false), T.c (.slice none 0 0), T.c (.bool false), T.c (.slice none 0 0)])), (115, some (Ent.box 44 [T.l (cL (cQ K)) (ML b b.length), T.l (cQ K) (SL b b.length)]))]) (fun i => ts.length - i) (fun i => (i ≤ w)) 0 (Nat.zero_le _) (sl 0 rfl (sl 1 rfl (sl 5 rfl (sl 7 rfl (sl 9 rfl sn))))) (el 11 rfl (el 115 rfl en)) ?_
  rintro i hi
  refine tri_sub (sl 0 rfl (sl 1 rfl (sl 5 rfl (sl 7 rfl (sl 9 rfl sn))))) (el 11 rfl (el 115 rfl en)) ?_
  refine tri_seq ?_
  refine tri_seq ?_
  refine tri_reg mixed hcx ?_ _ _
  refine mv rfl ?_
  refine mv rfl ?_
  refine ln slQs rfl ?_
  refine clt rfl rfl rfl ?_
  refine ⟨by kernel_rfl, ?_⟩
  refine nx (sl 0 rfl (sl 1 rfl (sl 5 rfl (sl 7 rfl (sl 9 rfl (sl 41 rfl sn)))))) (el 11 rfl (el 115 rfl en)) ?_
  refine tri_if rfl (fun hc => ?_) (fun hc => ?_)
  · refine tri_skip ?_
    refine nx (sl 0 rfl (sl 1 rfl (sl 5 rfl (sl 7 rfl (sl 9 rfl sn))))) (el 11 rfl (el 115 rfl en)) ?_
    refine tri_seq ?_
    refine tri_block ?_
    refine tri_seq ?_
    rcases Nat.lt_or_eq_of_le hi with h9 | h9
    · have h10 : 0 < (ts.getD i (cQi k).dflt).2 := hw2 i h9
      refine tri_reg mixed hcx ?_ _ _
      refine mv rfl ?_
      refine mv rfl ?_
      refine ix rfl rfl slQs ⟨rfl, by omega⟩ ?_
      refine lf rfl tyQ ?_
      refine ca rfl (h := r03_ValidG (q := true) ⟨fun _ => h10, fun _ => rfl⟩ (by omega)) (hn := ?_)
      refine nt rfl _ rfl ?_
      refine ⟨by kernel_rfl, ?_⟩
      refine nx (sl 0 rfl (sl 1 rfl (sl 5 rfl (sl 7 rfl (sl 9 rfl (sl 49 rfl sn)))))) (el 11 rfl (el 115 rfl en)) ?_
      refine tri_false rfl rfl ?_
      refine tri_skip ?_
      refine pn_blk ?_
      refine nx (sl 0 rfl (sl 1 rfl (sl 5 rfl (sl 7 rfl (sl 9 rfl sn))))) (el 11 rfl (el 115 rfl en)) ?_
      refine tri_reg mixed hcx ?_ _ _
      refine mv rfl ?_
      refine ad (((i + 1 : Nat) : Int)) rfl rfl rfl (by omega) ?_
      refine asg rfl ?_
      refine ⟨by kernel_rfl, ?_⟩
      exact pn_back (i + 1) (by first | omega | (dsimp only; omega)) (by omega) (sl 0 rfl (sl 1 rfl (sl 5 rfl (sl 7 rfl (sl 9 rfl sn))))) (el 11 rfl (el 115 rfl en))
    · subst h9
      refine tri_reg mixed hcx ?_ _ _
      refine mv rfl ?_
      refine mv rfl ?_
      refine ix rfl rfl slQs ⟨rfl, by omega⟩ ?_
      refine lf rfl tyQ ?_
      refine ca rfl (h := r03_ValidG (q := false) ⟨fun e => (by cases e), fun e => absurd e hw1⟩ (by omega)) (hn := ?_)
      refine nt rfl _ rfl ?_
      refine ⟨by kernel_rfl, ?_⟩
      refine nx (sl 0 rfl (sl 1 rfl (sl 5 rfl (sl 7 rfl (sl 9 rfl (sl 49 rfl sn)))))) (el 11 rfl (el 115 rfl en)) ?_
      refine tri_true rfl rfl ?_
      refine tri_seq ?_
      refine tri_reg mixed hcx ?_ _ _
      refine bu stQ rfl ?_
      refine asg rfl ?_
      refine st rfl rfl rfl tyQ rfl ?_
      refine asg rfl ?_
      refine ⟨by kernel_rfl, ?_⟩
      refine nx (sl 4 rfl (sl 5 rfl (sl 6 rfl sn))) (el 11 rfl (el 115 rfl en)) ?_
      refine tri_ret ?_
      repeat (first | refine pn_thenr ?_ | refine pn_blkr ?_)
      exact ret3 hcx rfl (rv_tmp rfl) (rv_cell (c' := cx) (n := 0) rfl rfl tyQ rfl) (rv_tmp rfl) (.refl _) en
  · refine tri_exit ?_
    repeat (first | refine pn_then ?_ | refine pn_oth (by decide) ?_)
    refine pn_ex ?_
    exfalso
    omega

/-- What the point has along the rows that are left, unscaled. -/
def aL (D : List Int) (L : List (List Int)) (a : Nat → Rat) (n : Nat) : List Rat := (List.range n).map fun i => yP D L a (yL D L a i) i i
theorem aL_succ {D : List Int} {L : List (List Int)} {a : Nat → Rat} {n : Nat} : aL D L a n ++ [yP D L a (yL D L a n) n n] = aL D L a (n + 1) := by simp [aL, List.range_succ]
theorem aL_len {D : List Int} {L : List (List Int)} {a : Nat → Rat} {n : Nat} : (aL D L a n).length = n := by simp [aL]
theorem aL_at {D : List Int} {L : List (List Int)} {a : Nat → Rat} {n i : Nat} (h : i < n) : (aL D L a n).getD i 0 = yP D L a (yL D L a i) i i := rng_at h
theorem aL_step {b : List (List Int)} {n : Nat} {D : List Int} {L : List (List Int)} {a : Nat → Rat} (h : DI b n D L) {i j : Nat} (hi : i < n) (hj : j < i) : yP D L a (yL D L a i) i j - mR b i j * yP D L a (yL D L a j) j j = yP D L a (yL D L a i) i (j + 1) := by
  show _ = yP D L a (yL D L a i) i j - muq D L i j * stq D j * (yL D L a i).getD j 0
  have hs : stq D j = sR b j := h.star (by omega)
  have hm : muq D L i j = mR b i j := h.mu hi hj
  have hne : sR b j ≠ 0 := ok_ne h.ok (by omega)
  rw [yL_at D L a hj, hs, hm]
  generalize yP D L a (yL D L a j) j j = z
  generalize sR b j = s at hne
  grind

theorem r05_Coords_ok {b : List (List Int)} {ts : List (Int × Int)} {D : List Int} {L : List (List Int)} {a : Nat → Rat} {k m K : Nat} (hv : Fn Tryz.prog 11 [T.l (cL (cZi k)) b, T.c (.bool true)] [] [] [] (T.tup [T.st [T.l (cL (cQ K)) (ML b b.length), T.l (cQ K) (SL b b.length)], T.c (.int .i64 0)])) (hI : DI b b.length D L) (hK : K ≤ 1048576) (hm : ∀ i, i < b.length → (b.getD i []).length = m) (hts : ts.length = m) (hmm : m ≤ 12) (hbl : b.length ≤ 12) (h0 : 0 < b.length) (htp : ∀ i, i < ts.length → 0 < (ts.getD i (0, 0)).2) (hk : k ≤ 1048576) (ha : ∀ i, i < b.length → alq ts (b.getD i []) m = a i) (hs : Sizes b ts b.length m D L a (yL D L a b.length) (cB D L (yL D L a b.length) b.length b.length)) : Fn Tryz.prog 5 [T.l (cL (cZi k)) b, T.l (cQi k) ts] [] [] [] (T.tup [T.l (cQp SN) ((cB D L (yL D L a b.length) b.length b.length).map nd), T.Q (sumN (fun k => tq ts k * tq ts k) m - sumN (fun j => (yL D L a b.length).getD j 0 * (yL D L a b.length).getD j 0 * stq D j) b.length) SN, T.c (.int .i64 0)]) := by
  refine fn_of Tryz.func5 rfl (by show 2 ≤ 159; decide) fun cx hcx => ?_
  refine tri_sub (sl 0 rfl (sl 1 rfl sn)) en ?_
  have hSN : SN = 2147483648 := rfl
  have hsne : ∀ i, i < b.length → sR b i ≠ 0 := fun i hi => ok_ne hI.ok hi
  have hst : ∀ i, i < b.length → stq D i = sR b i := fun i hi => hI.star hi
  have hmu : ∀ i j, i < b.length → j < i → muq D L i j = mR b i j := fun i j hi hj => hI.mu hi hj
  have hmz : (b.getD 0 (cL (cZi k)).dflt).length = m := hm 0 h0
  have hMl : (ML b b.length).length = b.length := ML_len
  have hSl : (SL b b.length).length = b.length := SL_len
  have hcz := @cR_zero D L (yL D L a b.length) b.length
  refine tri_seq ?_
  refine tri_reg mixed hcx ?_ _ _
  refine asg rfl ?_
  refine nw 11 zeQ ?_
  refine asg rfl ?_
  refine ⟨by kernel_rfl, ?_⟩
  refine nx (sl 0 rfl (sl 1 rfl (sl 5 rfl sn))) (el 11 rfl en) ?_
  refine tri_seq ?_
  refine tri_reg mixed hcx ?_ _ _
  refine mv rfl ?_
  refine ca rfl (h := hv) (hn := ?_)
  refine mv rfl ?_
  refine ex rfl rfl ?_
  refine ex rfl rfl ?_
  refine nw 115 zeR ?_
  refine sts rfl rfl rfl tyR rfl ?_
  refine asg rfl ?_
  refine ⟨by kernel_rfl, ?_⟩
  refine nx (sl 0 rfl (sl 1 rfl (sl 5 rfl (sl 7 rfl (sl 8 rfl sn))))) (el 11 rfl (el 115 rfl en)) ?_
  refine tri_seq ?_
  refine tri_seq ?_
  refine tri_reg mixed hcx ?_ _ _
  refine mv rfl ?_
  refine cne rfl rfl (decide_eq_false (by omega)) ?_
  refine ⟨by kernel_rfl, ?_⟩
  refine nx (sl 0 rfl (sl 1 rfl (sl 5 rfl (sl 7 rfl (sl 8 rfl (sl 27 rfl sn)))))) (el 11 rfl (el 115 rfl en)) ?_
  refine tri_false rfl rfl ?_
  refine tri_skip ?_
  refine nx (sl 0 rfl (sl 1 rfl (sl 5 rfl (sl 7 rfl sn)))) (el 11 rfl (el 115 rfl en)) ?_
  refine tri_seq ?_
  refine tri_seq ?_
  refine tri_reg mixed hcx ?_ _ _
  refine mv rfl ?_
  refine ln slQs rfl ?_
  refine mv rfl ?_
  refine ix rfl rfl slZss ⟨(rfl : _ = ((0 : Nat) : Int)), by omega⟩ ?_
  refine lf rfl tyZs ?_
  refine ln slZs rfl ?_
  refine cne rfl rfl (decide_eq_false (by omega)) ?_
  refine ⟨by kernel_rfl, ?_⟩
  refine nx (sl 0 rfl (sl 1 rfl (sl 5 rfl (sl 7 rfl (sl 36 rfl sn))))) (el 11 rfl (el 115 rfl en)) ?_
  refine tri_false rfl rfl ?_
  refine tri_skip ?_
  refine nx (sl 0 rfl (sl 1 rfl (sl 5 rfl (sl 7 rfl sn)))) (el 11 rfl (el 115 rfl en)) ?_
  refine tri_seq ?_
  refine tri_seq ?_
  refine tri_reg mixed hcx ?_ _ _
  refine asg rfl ?_
  refine ⟨by kernel_rfl, ?_⟩
  refine nx (sl 0 rfl (sl 1 rfl (sl 5 rfl (sl 7 rfl (sl 9 rfl sn))))) (el 11 rfl (el 115 rfl en)) ?_
  refine tri_block ?_
  refine tri_loop (ι := Nat) (fun i => [(0, T.l (cL (cZi k)) b), (1, T.l (cQi k) ts), (5, T.p 11 0), (7, T.p 115 0), (9, T.c (.int .i64 (i : Int)))]) (fun i => [(11, some (Ent.box 28 [T.c (.bool false), T.c (.slice none 0 0), T.c (.bool false), T.c (.slice none 0 0)])), (115, some (Ent.box 44 [T.l (cL (cQ K)) (ML b b.length), T.l (cQ K) (SL b b.length)]))]) (fun i => ts.length - i) (fun i => (i ≤ ts.length)) 0 (Nat.zero_le _) (sl 0 rfl (sl 1 rfl (sl 5 rfl (sl 7 rfl (sl 9 rfl sn))))) (el 11 rfl (el 115 rfl en)) ?_
  rintro i hi
  refine tri_sub (sl 0 rfl (sl 1 rfl (sl 5 rfl (sl 7 rfl (sl 9 rfl sn))))) (el 11 rfl (el 115 rfl en)) ?_
  refine tri_seq ?_
  refine tri_seq ?_
  refine tri_reg mixed hcx ?_ _ _
  refine mv rfl ?_
  refine mv rfl ?_
  refine ln slQs rfl ?_
  refine clt rfl rfl rfl ?_
  refine ⟨by kernel_rfl, ?_⟩
  refine nx (sl 0 rfl (sl 1 rfl (sl 5 rfl (sl 7 rfl (sl 9 rfl (sl 41 rfl sn)))))) (el 11 rfl (el 115 rfl en)) ?_
  refine tri_if rfl (fun hc => ?_) (fun hc => ?_)
  · have h10 : 0 < (ts.getD i (cQi k).dflt).2 := htp i (by omega)
    refine tri_skip ?_
    refine nx (sl 0 rfl (sl 1 rfl (sl 5 rfl (sl 7 rfl (sl 9 rfl sn))))) (el 11 rfl (el 115 rfl en)) ?_
    refine tri_seq ?_
    refine tri_block ?_
    refine tri_seq ?_
    refine tri_reg mixed hcx ?_ _ _
    refine mv rfl ?_
    refine mv rfl ?_
    refine ix rfl rfl slQs ⟨rfl, by omega⟩ ?_
    refine lf rfl tyQ ?_
    refine ca rfl (h := r03_ValidG (q := true) ⟨fun _ => h10, fun _ => rfl⟩ (by omega)) (hn := ?_)
    refine nt rfl _ rfl ?_
    refine ⟨by kernel_rfl, ?_⟩
    refine nx (sl 0 rfl (sl 1 rfl (sl 5 rfl (sl 7 rfl (sl 9 rfl (sl 49 rfl sn)))))) (el 11 rfl (el 115 rfl en)) ?_
    refine tri_false rfl rfl ?_
    refine tri_skip ?_
    refine pn_blk ?_
    refine nx (sl 0 rfl (sl 1 rfl (sl 5 rfl (sl 7 rfl (sl 9 rfl sn))))) (el 11 rfl (el 115 rfl en)) ?_
    refine tri_reg mixed hcx ?_ _ _
    refine mv rfl ?_
    refine ad (((i + 1 : Nat) : Int)) rfl rfl rfl (by omega) ?_
    refine asg rfl ?_
    refine ⟨by kernel_rfl, ?_⟩
    exact pn_back (i + 1) (by first | omega | (dsimp only; omega)) (by omega) (sl 0 rfl (sl 1 rfl (sl 5 rfl (sl 7 rfl (sl 9 rfl sn))))) (el 11 rfl (el 115 rfl en))
  · refine tri_exit ?_
    repeat (first | refine pn_then ?_ | refine pn_oth (by decide) ?_)
    refine pn_ex ?_
    have hie : i = ts.length := by omega
    refine nx (sl 0 rfl (sl 1 rfl (sl 5 rfl (sl 7 rfl sn)))) (el 11 rfl (el 115 rfl en)) ?_
    refine tri_seq ?_
    refine tri_reg mixed hcx ?_ _ _
    refine mv rfl ?_
    refine ln slZss rfl ?_
    refine asg rfl ?_
    refine ⟨by kernel_rfl, ?_⟩
    refine nx (sl 0 rfl (sl 1 rfl (sl 5 rfl (sl 7 rfl (sl 10 rfl sn))))) (el 11 rfl (el 115 rfl en)) ?_
    refine tri_seq ?_
    refine tri_reg mixed hcx ?_ _ _
    refine asg rfl ?_
    refine ⟨by kernel_rfl, ?_⟩
    refine nx (sl 0 rfl (sl 1 rfl (sl 5 rfl (sl 7 rfl (sl 10 rfl (sl 11 rfl sn)))))) (el 11 rfl (el 115 rfl en)) ?_
    refine tri_seq ?_
    refine tri_seq ?_
    refine tri_nil 11 9 28 (cQ SN) rfl (by rw [hcx]; kernel_rfl) ?_
    refine tri_reg mixed hcx ?_ _ _
    refine asg rfl ?_
    refine ⟨by kernel_rfl, ?_⟩
    refine nx (sl 0 rfl (sl 1 rfl (sl 5 rfl (sl 7 rfl (sl 10 rfl (sl 11 rfl (sl 12 rfl sn))))))) (el 11 rfl (el 115 rfl (el 9 rfl en))) ?_
    refine tri_block ?_
    refine tri_loop (ι := Nat) (fun i => [(0, T.l (cL (cZi k)) b), (1, T.l (cQi k) ts), (5, T.p 11 0), (7, T.p 115 0), (10, T.c (.int .i64 (b.length : Int))), (11, T.o 9), (12, T.c (.int .i64 (i : Int)))]) (fun i => [(11, some (Ent.box 28 [T.c (.bool false), T.c (.slice none 0 0), T.c (.bool false), T.c (.slice none 0 0)])), (115, some (Ent.box 44 [T.l (cL (cQ K)) (ML b b.length), T.l (cQ K) (SL b b.length)])), (9, some (Ent.row (cQ SN) 28 (aL D L a i)))]) (fun i => b.length - i) (fun i => (i ≤ b.length)) 0 (Nat.zero_le _) (sl 0 rfl (sl 1 rfl (sl 5 rfl (sl 7 rfl (sl 10 rfl (sl 11 rfl (sl 12 rfl sn))))))) (el 11 rfl (el 115 rfl (el 9 rfl en))) ?_
    rintro i hi
    refine tri_sub (sl 0 rfl (sl 1 rfl (sl 5 rfl (sl 7 rfl (sl 10 rfl (sl 11 rfl (sl 12 rfl sn))))))) (el 11 rfl (el 115 rfl (el 9 rfl en))) ?_
    have hal := @aL_len D L a i
    refine tri_seq ?_
    refine tri_seq ?_
    refine tri_reg mixed hcx ?_ _ _
    refine mv rfl ?_
    refine mv rfl ?_
    refine clt rfl rfl rfl ?_
    refine ⟨by kernel_rfl, ?_⟩
    refine nx (sl 0 rfl (sl 1 rfl (sl 5 rfl (sl 7 rfl (sl 10 rfl (sl 11 rfl (sl 12 rfl (sl 55 rfl sn)))))))) (el 11 rfl (el 115 rfl (el 9 rfl en))) ?_
    refine tri_if rfl (fun hd => ?_) (fun hd => ?_)
    · have hi2 : i < b.length := by omega
      have hmi : (b.getD i (cL (cZi k)).dflt).length = m := hm i hi2
      refine tri_skip ?_
      refine nx (sl 0 rfl (sl 1 rfl (sl 5 rfl (sl 7 rfl (sl 10 rfl (sl 11 rfl (sl 12 rfl sn))))))) (el 11 rfl (el 115 rfl (el 9 rfl en))) ?_
      refine tri_seq ?_
      refine tri_block ?_
      refine tri_seq ?_
      refine tri_reg mixed hcx ?_ _ _
      refine mv rfl ?_
      refine mv rfl ?_
      refine mv rfl ?_
      refine ix rfl rfl slZss ⟨rfl, by omega⟩ ?_
      refine lf rfl tyZs ?_
      refine ca rfl (h := r05_along (r := b.getD i (cL (cZi k)).dflt) (S := 16777216) (by omega) (by omega) htp (by omega) (by decide) (fun j hj => hs.aa i hi2 j (by omega))) (hn := ?_)
      refine nw 1616 zeQ ?_
      refine st rfl rfl rfl tyQ rfl ?_
      refine ⟨by kernel_rfl, ?_⟩
      refine nx (sl 0 rfl (sl 1 rfl (sl 5 rfl (sl 7 rfl (sl 10 rfl (sl 11 rfl (sl 12 rfl (sl 13 rfl sn)))))))) (el 11 rfl (el 115 rfl (el 9 rfl (el 1616 rfl en)))) ?_
      refine tri_seq ?_
      refine tri_seq ?_
      refine tri_reg mixed hcx ?_ _ _
      refine asg rfl ?_
      refine ⟨by kernel_rfl, ?_⟩
      refine nx (sl 0 rfl (sl 1 rfl (sl 5 rfl (sl 7 rfl (sl 10 rfl (sl 11 rfl (sl 12 rfl (sl 13 rfl (sl 14 rfl sn))))))))) (el 11 rfl (el 115 rfl (el 9 rfl (el 1616 rfl en)))) ?_
      refine tri_block ?_
      refine tri_loop (ι := Nat) (fun j => [(0, T.l (cL (cZi k)) b), (1, T.l (cQi k) ts), (5, T.p 11 0), (7, T.p 115 0), (10, T.c (.int .i64 (b.length : Int))), (11, T.o 9), (12, T.c (.int .i64 (i : Int))), (13, T.p 1616 0), (14, T.c (.int .i64 (j : Int)))]) (fun j => [(11, some (Ent.box 28 [T.c (.bool false), T.c (.slice none 0 0), T.c (.bool false), T.c (.slice none 0 0)])), (115, some (Ent.box 44 [T.l (cL (cQ K)) (ML b b.length), T.l (cQ K) (SL b b.length)])), (9, some (Ent.row (cQ SN) 28 (aL D L a i))), (1616, some (Ent.box 28 [T.Q (yP D L a (yL D L a i) i j) SN]))]) (fun j => i - j) (fun j => (j ≤ i)) 0 (Nat.zero_le _) (sl 0 rfl (sl 1 rfl (sl 5 rfl (sl 7 rfl (sl 10 rfl (sl 11 rfl (sl 12 rfl (sl 13 rfl (sl 14 rfl sn))))))))) (el 11 rfl (el 115 rfl (el 9 rfl (ew 1616 rfl (box_q (q_qb (by rw [hmi]; exact ha i hi2) (hs.yp i hi2 0 (Nat.zero_le _)))) en)))) ?_
      rintro j hj
      refine tri_sub (sl 0 rfl (sl 1 rfl (sl 5 rfl (sl 7 rfl (sl 10 rfl (sl 11 rfl (sl 12 rfl (sl 13 rfl (sl 14 rfl sn))))))))) (el 11 rfl (el 115 rfl (el 9 rfl (el 1616 rfl en)))) ?_
      refine tri_seq ?_
      refine tri_seq ?_
      refine tri_reg mixed hcx ?_ _ _
      refine mv rfl ?_
      refine mv rfl ?_
      refine clt rfl rfl rfl ?_
      refine ⟨by kernel_rfl, ?_⟩
      refine nx (sl 0 rfl (sl 1 rfl (sl 5 rfl (sl 7 rfl (sl 10 rfl (sl 11 rfl (sl 12 rfl (sl 13 rfl (sl 14 rfl (sl 66 rfl sn)))))))))) (el 11 rfl (el 115 rfl (el 9 rfl (el 1616 rfl en)))) ?_
      refine tri_if rfl (fun he => ?_) (fun he => ?_)
      · have hj2 : j < i := by omega
        have hMi : ((ML b b.length).getD i (cL (cQ K)).dflt).length = i := by rw [show (ML b b.length).getD i (cL (cQ K)).dflt = mL b i i from ML_at hi2, mL_len]
        refine tri_skip ?_
        refine nx (sl 0 rfl (sl 1 rfl (sl 5 rfl (sl 7 rfl (sl 10 rfl (sl 11 rfl (sl 12 rfl (sl 13 rfl (sl 14 rfl sn))))))))) (el 11 rfl (el 115 rfl (el 9 rfl (el 1616 rfl en)))) ?_
        refine tri_seq ?_
        refine tri_block ?_
        refine tri_reg mixed hcx ?_ _ _
        refine ld rfl rfl tyQ rfl ?_
        refine fa rfl fMu 0 ?_
        refine ld rfl rfl tyQss rfl ?_
        refine mv rfl ?_
        refine ix rfl rfl slQss ⟨rfl, by omega⟩ ?_
        refine lf rfl tyQs ?_
        refine mv rfl ?_
        refine ix rfl rfl slQs ⟨rfl, by omega⟩ ?_
        refine lfx (X := T.Q (mR b i j) K) rfl tyQ (q_eq (by rw [show (ML b b.length).getD i (cL (cQ K)).dflt = mL b i i from ML_at hi2]; exact mL_at hj2) (Nat.le_refl _)) ?_
        refine mv rfl ?_
        refine mv rfl ?_
        refine ixo rfl rfl rfl slQs ⟨rfl, by omega⟩ ?_
        refine lox (X := T.Q (yP D L a (yL D L a j) j j) SN) j rfl rfl tyQ ⟨rfl, rfl, by omega⟩ (q_eq (aL_at hj2) (Nat.le_refl _)) ?_
        refine cb rfl (h := r3v_Mul (by omega) (by omega)) (hn := ?_)
        refine cb rfl (h := r3v_Sub (by omega) (by omega)) (hn := ?_)
        refine st rfl rfl rfl tyQ rfl ?_
        refine ⟨by kernel_rfl, ?_⟩
        refine pn_blk ?_
        refine nx (sl 0 rfl (sl 1 rfl (sl 5 rfl (sl 7 rfl (sl 10 rfl (sl 11 rfl (sl 12 rfl (sl 13 rfl (sl 14 rfl sn))))))))) (el 11 rfl (el 115 rfl (el 9 rfl (el 1616 rfl en)))) ?_
        refine tri_reg mixed hcx ?_ _ _
        refine mv rfl ?_
        refine ad (((j + 1 : Nat) : Int)) rfl rfl rfl (by omega) ?_
        refine asg rfl ?_
        refine ⟨by kernel_rfl, ?_⟩
        exact pn_back (j + 1) (by first | omega | (dsimp only; omega)) (by omega) (sl 0 rfl (sl 1 rfl (sl 5 rfl (sl 7 rfl (sl 10 rfl (sl 11 rfl (sl 12 rfl (sl 13 rfl (sl 14 rfl sn))))))))) (el 11 rfl (el 115 rfl (el 9 rfl (ew 1616 rfl (box_q (q_qb (aL_step hI hi2 hj2) (hs.yp i hi2 (j + 1) (by omega)))) en))))
      · refine tri_exit ?_
        repeat (first | refine pn_then ?_ | refine pn_oth (by decide) ?_)
        refine pn_ex ?_
        have hji : j = i := by omega
        refine nx (sl 0 rfl (sl 1 rfl (sl 5 rfl (sl 7 rfl (sl 10 rfl (sl 11 rfl (sl 12 rfl (sl 13 rfl sn)))))))) (el 11 rfl (el 115 rfl (el 9 rfl (el 1616 rfl en)))) ?_
        refine tri_reg mixed hcx ?_ _ _
        refine mv rfl ?_
        refine ld rfl rfl tyQ rfl ?_
        refine bs (c := cQ SN) (xs := [yP D L a (yL D L a i) i i]) slQs rfl ⟨q_eq (by rw [hji]) (Nat.le_refl _), trivial⟩ ?_
        refine ap 2113 rfl rfl rfl slQs (by simp only [List.length_cons, List.length_nil]; omega) (by decide) ?_
        refine asg rfl ?_
        refine ⟨by kernel_rfl, ?_⟩
        refine pn_blk ?_
        refine nx (sl 0 rfl (sl 1 rfl (sl 5 rfl (sl 7 rfl (sl 10 rfl (sl 11 rfl (sl 12 rfl sn))))))) (el 11 rfl (el 115 rfl (el 1616 rfl (el 2113 rfl en)))) ?_
        refine tri_reg mixed hcx ?_ _ _
        refine mv rfl ?_
        refine ad (((i + 1 : Nat) : Int)) rfl rfl rfl (by omega) ?_
        refine asg rfl ?_
        refine ⟨by kernel_rfl, ?_⟩
        refine pn_sub (sl 0 rfl (sl 1 rfl (sl 5 rfl (sl 7 rfl (sl 10 rfl (sl 11 rfl (sl 12 rfl sn))))))) (el 11 rfl (el 115 rfl (el 1616 rfl (el 2113 rfl en)))) ?_
        refine pn_ren 11 9 2113 rfl rfl (by rw [hcx]; kernel_rfl) ?_
        exact pn_back (i + 1) (by first | omega | (dsimp only; omega)) (by omega) (sl 0 rfl (sl 1 rfl (sl 5 rfl (sl 7 rfl (sl 10 rfl (sl 11 rfl (sl 12 rfl sn))))))) (el 11 rfl (el 115 rfl (ew 9 rfl (.of (by rw [aL_succ])) en)))
    · refine tri_exit ?_
      repeat (first | refine pn_then ?_ | refine pn_oth (by decide) ?_)
      refine pn_ex ?_
      have hie2 : i = b.length := by omega
      refine nx (sl 1 rfl (sl 5 rfl (sl 7 rfl (sl 10 rfl (sl 11 rfl sn))))) (el 11 rfl (el 115 rfl (el 9 rfl en))) ?_
      refine tri_seq ?_
      refine tri_fz 9 rfl ?_
      refine tri_rd 11 9 rfl rfl ?_
      refine tri_as 11 (Z := T.l (cQ SN) (aL D L a b.length)) rfl (.of (by rw [hie2])) ?_
      refine tri_reg mixed hcx ?_ _ _
      refine mv rfl ?_
      refine mkz (c := cQp SN) (n := b.length) 2211 slQs rfl (by omega) (fun u => ⟨zvQ, zrQp SN u⟩) (by decide) ?_
      refine asg rfl ?_
      refine ⟨by kernel_rfl, ?_⟩
      refine nx (sl 1 rfl (sl 5 rfl (sl 7 rfl (sl 10 rfl (sl 11 rfl (sl 15 rfl sn)))))) (el 11 rfl (el 115 rfl (el 2211 rfl en))) ?_
      refine tri_seq ?_
      refine tri_reg mixed hcx ?_ _ _
      refine bu stZ rfl ?_
      refine ca rfl (h := r03_Of (by omega)) (hn := ?_)
      refine nw 2312 zeQ ?_
      refine st rfl rfl rfl tyQ rfl ?_
      refine ⟨by kernel_rfl, ?_⟩
      refine nx (sl 1 rfl (sl 5 rfl (sl 7 rfl (sl 10 rfl (sl 11 rfl (sl 15 rfl (sl 16 rfl sn))))))) (el 11 rfl (el 115 rfl (el 2211 rfl (el 2312 rfl en)))) ?_
      refine tri_seq ?_
      refine tri_seq ?_
      refine tri_reg mixed hcx ?_ _ _
      refine asg rfl ?_
      refine ⟨by kernel_rfl, ?_⟩
      refine nx (sl 1 rfl (sl 5 rfl (sl 7 rfl (sl 10 rfl (sl 11 rfl (sl 15 rfl (sl 16 rfl (sl 17 rfl sn)))))))) (el 11 rfl (el 115 rfl (el 2211 rfl (el 2312 rfl en)))) ?_
      refine tri_block ?_
      refine tri_loop (ι := Nat) (fun e => [(1, T.l (cQi k) ts), (5, T.p 11 0), (7, T.p 115 0), (10, T.c (.int .i64 (b.length : Int))), (11, T.l (cQ SN) (aL D L a b.length)), (15, T.o 2211), (16, T.p 2312 0), (17, T.c (.int .i64 (e : Int)))]) (fun e => [(11, some (Ent.box 28 [T.c (.bool false), T.c (.slice none 0 0), T.c (.bool false), T.c (.slice none 0 0)])), (115, some (Ent.box 44 [T.l (cL (cQ K)) (ML b b.length), T.l (cQ K) (SL b b.length)])), (2211, some (Ent.row (cQp SN) 28 (List.replicate b.length (0, 0)))), (2312, some (Ent.box 28 [T.Q (sumN (fun k => tq ts k * tq ts k) e) SN]))]) (fun e => ts.length - e) (fun e => (e ≤ ts.length)) 0 (Nat.zero_le _) (sl 1 rfl (sl 5 rfl (sl 7 rfl (sl 10 rfl (sl 11 rfl (sl 15 rfl (sl 16 rfl (sl 17 rfl sn)))))))) (el 11 rfl (el 115 rfl (ew 2211 rfl (.of rfl) (ew 2312 rfl (box_q (q_qb (by rfl) (hs.tt 0 (Nat.zero_le _)))) en)))) ?_
      rintro e hee
      refine tri_sub (sl 1 rfl (sl 5 rfl (sl 7 rfl (sl 10 rfl (sl 11 rfl (sl 15 rfl (sl 16 rfl (sl 17 rfl sn)))))))) (el 11 rfl (el 115 rfl (el 2211 rfl (el 2312 rfl en)))) ?_
      refine tri_seq ?_
      refine tri_seq ?_
      refine tri_reg mixed hcx ?_ _ _
      refine mv rfl ?_
      refine mv rfl ?_
      refine ln slQs rfl ?_
      refine clt rfl rfl rfl ?_
      refine ⟨by kernel_rfl, ?_⟩
      refine nx (sl 1 rfl (sl 5 rfl (sl 7 rfl (sl 10 rfl (sl 11 rfl (sl 15 rfl (sl 16 rfl (sl 17 rfl (sl 95 rfl sn))))))))) (el 11 rfl (el 115 rfl (el 2211 rfl (el 2312 rfl en)))) ?_
      refine tri_if rfl (fun hf => ?_) (fun hf => ?_)
      · have hpi := htp e (by omega)
        refine tri_skip ?_
        refine nx (sl 1 rfl (sl 5 rfl (sl 7 rfl (sl 10 rfl (sl 11 rfl (sl 15 rfl (sl 16 rfl (sl 17 rfl sn)))))))) (el 11 rfl (el 115 rfl (el 2211 rfl (el 2312 rfl en)))) ?_
        refine tri_seq ?_
        refine tri_block ?_
        refine tri_reg mixed hcx ?_ _ _
        refine ld rfl rfl tyQ rfl ?_
        refine mv rfl ?_
        refine mv rfl ?_
        refine ix rfl rfl slQs ⟨rfl, by omega⟩ ?_
        refine lfx (X := T.V (tq ts e) k) rfl tyQ (cqi_v hpi) ?_
        refine cb rfl (h := r05_squareV (by omega)) (hn := ?_)
        refine cb rfl (h := r3v_Add (by omega) (by omega)) (hn := ?_)
        refine st rfl rfl rfl tyQ rfl ?_
        refine ⟨by kernel_rfl, ?_⟩
        refine pn_blk ?_
        refine nx (sl 1 rfl (sl 5 rfl (sl 7 rfl (sl 10 rfl (sl 11 rfl (sl 15 rfl (sl 16 rfl (sl 17 rfl sn)))))))) (el 11 rfl (el 115 rfl (el 2211 rfl (el 2312 rfl en)))) ?_
        refine tri_reg mixed hcx ?_ _ _
        refine mv rfl ?_
        refine ad (((e + 1 : Nat) : Int)) rfl rfl rfl (by omega) ?_
        refine asg rfl ?_
        refine ⟨by kernel_rfl, ?_⟩
        exact pn_back (e + 1) (by first | omega | (dsimp only; omega)) (by omega) (sl 1 rfl (sl 5 rfl (sl 7 rfl (sl 10 rfl (sl 11 rfl (sl 15 rfl (sl 16 rfl (sl 17 rfl sn)))))))) (el 11 rfl (el 115 rfl (el 2211 rfl (ew 2312 rfl (box_q (q_qb rfl (hs.tt (e + 1) (by omega)))) en))))
      · refine tri_exit ?_
        repeat (first | refine pn_then ?_ | refine pn_oth (by decide) ?_)
        refine pn_ex ?_
        have hem : e = m := by omega
        refine nx (sl 5 rfl (sl 7 rfl (sl 10 rfl (sl 11 rfl (sl 15 rfl (sl 16 rfl sn)))))) (el 11 rfl (el 115 rfl (el 2211 rfl (el 2312 rfl en)))) ?_
        refine tri_seq ?_
        refine tri_seq ?_
        refine tri_reg mixed hcx ?_ _ _
        refine mv rfl ?_
        refine sb (((b.length : Int) - 1)) rfl rfl rfl (by omega) ?_
        refine asg rfl ?_
        refine ⟨by kernel_rfl, ?_⟩
        refine nx (sl 5 rfl (sl 7 rfl (sl 10 rfl (sl 11 rfl (sl 15 rfl (sl 16 rfl (sl 18 rfl sn))))))) (el 11 rfl (el 115 rfl (el 2211 rfl (el 2312 rfl en)))) ?_
        refine tri_block ?_
        refine tri_loop (ι := Nat) (fun s => [(5, T.p 11 0), (7, T.p 115 0), (10, T.c (.int .i64 (b.length : Int))), (11, T.l (cQ SN) (aL D L a b.length)), (15, T.o 2211), (16, T.p 2312 0), (18, T.c (.int .i64 ((b.length : Int) - 1 - (s : Int))))]) (fun s => [(11, some (Ent.box 28 [T.c (.bool false), T.c (.slice none 0 0), T.c (.bool false), T.c (.slice none 0 0)])), (115, some (Ent.box 44 [T.l (cL (cQ K)) (ML b b.length), T.l (cQ K) (SL b b.length)])), (2211, some (Ent.row (cQp SN) 28 (cR D L (yL D L a b.length) b.length s))), (2312, some (Ent.box 28 [T.Q (sumN (fun k => tq ts k * tq ts k) m - sumN (fun j => (yL D L a b.length).getD (b.length - (j + 1)) 0 * (yL D L a b.length).getD (b.length - (j + 1)) 0 * stq D (b.length - (j + 1))) s) SN]))]) (fun s => b.length - s) (fun s => (s ≤ b.length)) 0 (Nat.zero_le _) (sl 5 rfl (sl 7 rfl (sl 10 rfl (sl 11 rfl (sl 15 rfl (sl 16 rfl (sw 18 rfl (ci (by simp)) sn))))))) (el 11 rfl (el 115 rfl (ew 2211 rfl (.of (by rw [hcz])) (ew 2312 rfl (box_q (q_qb (by rw [hem]; show _ = _ - (0 : Rat); grind) (hs.ds 0 (Nat.zero_le _)))) en)))) ?_
        rintro s hsn
        refine tri_sub (sl 5 rfl (sl 7 rfl (sl 10 rfl (sl 11 rfl (sl 15 rfl (sl 16 rfl (sl 18 rfl sn))))))) (el 11 rfl (el 115 rfl (el 2211 rfl (el 2312 rfl en)))) ?_
        have hcl := @cR_len D L (yL D L a b.length) b.length s hsn
        have hal2 := @aL_len D L a b.length
        refine tri_seq ?_
        refine tri_seq ?_
        refine tri_reg mixed hcx ?_ _ _
        refine mv rfl ?_
        refine cge rfl rfl rfl ?_
        refine ⟨by kernel_rfl, ?_⟩
        refine nx (sl 5 rfl (sl 7 rfl (sl 10 rfl (sl 11 rfl (sl 15 rfl (sl 16 rfl (sl 18 rfl (sl 108 rfl sn)))))))) (el 11 rfl (el 115 rfl (el 2211 rfl (el 2312 rfl en)))) ?_
        refine tri_if rfl (fun hg => ?_) (fun hg => ?_)
        · have hs2 : s < b.length := by omega
          have hi3 : b.length - (s + 1) < b.length := by omega
          have hyi : (yL D L a b.length).getD (b.length - (s + 1)) 0 = yP D L a (yL D L a (b.length - (s + 1))) (b.length - (s + 1)) (b.length - (s + 1)) / sR b (b.length - (s + 1)) := by rw [yL_at D L a hi3, hst _ hi3]
          have hne3 := hsne _ hi3
          refine tri_skip ?_
          refine nx (sl 5 rfl (sl 7 rfl (sl 10 rfl (sl 11 rfl (sl 15 rfl (sl 16 rfl (sl 18 rfl sn))))))) (el 11 rfl (el 115 rfl (el 2211 rfl (el 2312 rfl en)))) ?_
          refine tri_seq ?_
          refine tri_block ?_
          refine tri_seq ?_
          refine tri_reg mixed hcx ?_ _ _
          refine mv rfl ?_
          refine mv rfl ?_
          refine ix rfl rfl slQs (i := b.length - (s + 1)) ⟨by omega, by omega⟩ ?_
          refine lfx (X := T.Q (yP D L a (yL D L a (b.length - (s + 1))) (b.length - (s + 1)) (b.length - (s + 1))) SN) rfl tyQ (q_eq (aL_at hi3) (Nat.le_refl _)) ?_
          refine fa rfl fStar 1 ?_
          refine ld rfl rfl tyQs rfl ?_
          refine mv rfl ?_
          refine ix rfl rfl slQs (i := b.length - (s + 1)) ⟨by omega, by omega⟩ ?_
          refine lfx (X := T.Q (sR b (b.length - (s + 1))) K) rfl tyQ (q_eq (SL_at hi3) (Nat.le_refl _)) ?_
          refine cb rfl (h := r3v_Div (by omega) (by omega) (by assumption)) (hn := ?_)
          refine nw 3120 zeQ ?_
          refine st rfl rfl rfl tyQ rfl ?_
          refine ⟨by kernel_rfl, ?_⟩
          refine nx (sl 5 rfl (sl 7 rfl (sl 10 rfl (sl 11 rfl (sl 15 rfl (sl 16 rfl (sl 18 rfl (sl 19 rfl sn)))))))) (el 11 rfl (el 115 rfl (el 2211 rfl (el 2312 rfl (el 3120 rfl en))))) ?_
          refine tri_seq ?_
          refine tri_reg mixed hcx ?_ _ _
          refine ld rfl rfl tyQ rfl ?_
          refine ld rfl rfl tyQ rfl ?_
          refine cb rfl (h := r05_squareV (by omega)) (hn := ?_)
          refine fa rfl fStar 1 ?_
          refine ld rfl rfl tyQs rfl ?_
          refine mv rfl ?_
          refine ix rfl rfl slQs (i := b.length - (s + 1)) ⟨by omega, by omega⟩ ?_
          refine lfx (X := T.Q (sR b (b.length - (s + 1))) K) rfl tyQ (q_eq (SL_at hi3) (Nat.le_refl _)) ?_
          refine cb rfl (h := r3v_Mul (by omega) (by omega)) (hn := ?_)
          refine cb rfl (h := r3v_Sub (by omega) (by omega)) (hn := ?_)
          refine st rfl rfl rfl tyQ rfl ?_
          refine ⟨by kernel_rfl, ?_⟩
          refine nx (sl 5 rfl (sl 7 rfl (sl 10 rfl (sl 11 rfl (sl 15 rfl (sl 16 rfl (sl 18 rfl (sl 19 rfl sn)))))))) (el 11 rfl (el 115 rfl (el 2211 rfl (el 2312 rfl (el 3120 rfl en))))) ?_
          refine tri_seq ?_
          refine tri_seq ?_
          refine tri_reg mixed hcx ?_ _ _
          refine mv rfl ?_
          refine ad (((b.length - (s + 1) + 1 : Nat) : Int)) rfl rfl rfl (by omega) ?_
          refine asg rfl ?_
          refine ⟨by kernel_rfl, ?_⟩
          refine nx (sl 5 rfl (sl 7 rfl (sl 10 rfl (sl 11 rfl (sl 15 rfl (sl 16 rfl (sl 18 rfl (sl 19 rfl (sl 20 rfl sn))))))))) (el 11 rfl (el 115 rfl (el 2211 rfl (el 2312 rfl (el 3120 rfl en))))) ?_
          refine tri_block ?_
          refine tri_loop (ι := Nat) (fun q => [(5, T.p 11 0), (7, T.p 115 0), (10, T.c (.int .i64 (b.length : Int))), (11, T.l (cQ SN) (aL D L a b.length)), (15, T.o 2211), (16, T.p 2312 0), (18, T.c (.int .i64 ((b.length : Int) - 1 - (s : Int)))), (19, T.p 3120 0), (20, T.c (.int .i64 ((b.length - (s + 1) + 1 + q : Nat) : Int)))]) (fun q => [(11, some (Ent.box 28 [T.c (.bool false), T.c (.slice none 0 0), T.c (.bool false), T.c (.slice none 0 0)])), (115, some (Ent.box 44 [T.l (cL (cQ K)) (ML b b.length), T.l (cQ K) (SL b b.length)])), (2211, some (Ent.row (cQp SN) 28 (cR D L (yL D L a b.length) b.length s))), (2312, some (Ent.box 28 [T.Q (sumN (fun k => tq ts k * tq ts k) m - sumN (fun j => (yL D L a b.length).getD (b.length - (j + 1)) 0 * (yL D L a b.length).getD (b.length - (j + 1)) 0 * stq D (b.length - (j + 1))) s - yP D L a (yL D L a (b.length - (s + 1))) (b.length - (s + 1)) (b.length - (s + 1)) / sR b (b.length - (s + 1)) * (yP D L a (yL D L a (b.length - (s + 1))) (b.length - (s + 1)) (b.length - (s + 1)) / sR b (b.length - (s + 1))) * sR b (b.length - (s + 1))) 8589934592])), (3120, some (Ent.box 28 [T.Q (cP D L (yL D L a b.length) (cB D L (yL D L a b.length) b.length s) (b.length - (s + 1)) q) SN]))]) (fun q => s - q) (fun q => (q ≤ s)) 0 (Nat.zero_le _) (sl 5 rfl (sl 7 rfl (sl 10 rfl (sl 11 rfl (sl 15 rfl (sl 16 rfl (sl 18 rfl (sl 19 rfl (sl 20 rfl sn))))))))) (el 11 rfl (el 115 rfl (el 2211 rfl (ew 2312 rfl (box_q (q_eq rfl (by omega))) (ew 3120 rfl (box_q (q_qb hyi.symm (hs.cp s hs2 0 (Nat.zero_le _)))) en))))) ?_
          rintro q hqq
          refine tri_sub (sl 5 rfl (sl 7 rfl (sl 10 rfl (sl 11 rfl (sl 15 rfl (sl 16 rfl (sl 18 rfl (sl 19 rfl (sl 20 rfl sn))))))))) (el 11 rfl (el 115 rfl (el 2211 rfl (el 2312 rfl (el 3120 rfl en))))) ?_
          refine tri_seq ?_
          refine tri_seq ?_
          refine tri_reg mixed hcx ?_ _ _
          refine mv rfl ?_
          refine mv rfl ?_
          refine clt rfl rfl rfl ?_
          refine ⟨by kernel_rfl, ?_⟩
          refine nx (sl 5 rfl (sl 7 rfl (sl 10 rfl (sl 11 rfl (sl 15 rfl (sl 16 rfl (sl 18 rfl (sl 19 rfl (sl 20 rfl (sl 135 rfl sn)))))))))) (el 11 rfl (el 115 rfl (el 2211 rfl (el 2312 rfl (el 3120 rfl en))))) ?_
          refine tri_if rfl (fun hh => ?_) (fun hh => ?_)
          · have hq2 : q < s := by omega
            have hMi : ((ML b b.length).getD (b.length - (s + 1) + 1 + q) (cL (cQ K)).dflt).length = b.length - (s + 1) + 1 + q := by rw [show (ML b b.length).getD (b.length - (s + 1) + 1 + q) (cL (cQ K)).dflt = mL b (b.length - (s + 1) + 1 + q) (b.length - (s + 1) + 1 + q) from ML_at (by omega), mL_len]
            refine tri_skip ?_
            refine nx (sl 5 rfl (sl 7 rfl (sl 10 rfl (sl 11 rfl (sl 15 rfl (sl 16 rfl (sl 18 rfl (sl 19 rfl (sl 20 rfl sn))))))))) (el 11 rfl (el 115 rfl (el 2211 rfl (el 2312 rfl (el 3120 rfl en))))) ?_
            refine tri_seq ?_
            refine tri_block ?_
            refine tri_reg mixed hcx ?_ _ _
            refine ld rfl rfl tyQ rfl ?_
            refine fa rfl fMu 0 ?_
            refine ld rfl rfl tyQss rfl ?_
            refine mv rfl ?_
            refine ix rfl rfl slQss (i := b.length - (s + 1) + 1 + q) ⟨by omega, by omega⟩ ?_
            refine lf rfl tyQs ?_
            refine mv rfl ?_
            refine ix rfl rfl slQs (i := b.length - (s + 1)) ⟨by omega, by omega⟩ ?_
            refine lfx (X := T.Q (mR b (b.length - (s + 1) + 1 + q) (b.length - (s + 1))) K) rfl tyQ (q_eq (by rw [show (ML b b.length).getD (b.length - (s + 1) + 1 + q) (cL (cQ K)).dflt = mL b (b.length - (s + 1) + 1 + q) (b.length - (s + 1) + 1 + q) from ML_at (by omega)]; exact mL_at (by omega)) (Nat.le_refl _)) ?_
            refine mv rfl ?_
            refine mv rfl ?_
            refine ixo rfl rfl rfl slQs (i := b.length - (s + 1) + 1 + q) ⟨by omega, by omega⟩ ?_
            refine lox (X := T.Q ((cB D L (yL D L a b.length) b.length s).getD q 0) SN) (b.length - (s + 1) + 1 + q) rfl rfl tyQ ⟨rfl, rfl, by omega⟩ (p_q (by rw [show (cQp SN).dflt = (0, 0) from rfl, show b.length - (s + 1) + 1 + q = b.length - s + q by omega, cR_get hsn hq2])) ?_
            refine cb rfl (h := r3v_Mul (by omega) (by omega)) (hn := ?_)
            refine cb rfl (h := r3v_Sub (by omega) (by omega)) (hn := ?_)
            refine st rfl rfl rfl tyQ rfl ?_
            refine ⟨by kernel_rfl, ?_⟩
            refine pn_blk ?_
            refine nx (sl 5 rfl (sl 7 rfl (sl 10 rfl (sl 11 rfl (sl 15 rfl (sl 16 rfl (sl 18 rfl (sl 19 rfl (sl 20 rfl sn))))))))) (el 11 rfl (el 115 rfl (el 2211 rfl (el 2312 rfl (el 3120 rfl en))))) ?_
            refine tri_reg mixed hcx ?_ _ _
            refine mv rfl ?_
            refine ad (((b.length - (s + 1) + 1 + (q + 1) : Nat) : Int)) rfl rfl rfl (by omega) ?_
            refine asg rfl ?_
            refine ⟨by kernel_rfl, ?_⟩
            exact pn_back (q + 1) (by first | omega | (dsimp only; omega)) (by omega) (sl 5 rfl (sl 7 rfl (sl 10 rfl (sl 11 rfl (sl 15 rfl (sl 16 rfl (sl 18 rfl (sl 19 rfl (sw 20 rfl (ci (by omega)) sn))))))))) (el 11 rfl (el 115 rfl (el 2211 rfl (el 2312 rfl (ew 3120 rfl (box_q (q_qb (by rw [← hmu (b.length - (s + 1) + 1 + q) (b.length - (s + 1)) (by omega) (by omega)]; rfl) (hs.cp s hs2 (q + 1) (by omega)))) en)))))
          · refine tri_exit ?_
            repeat (first | refine pn_then ?_ | refine pn_oth (by decide) ?_)
            refine pn_ex ?_
            have hqs : q = s := by omega
            refine nx (sl 5 rfl (sl 7 rfl (sl 10 rfl (sl 11 rfl (sl 15 rfl (sl 16 rfl (sl 18 rfl (sl 19 rfl sn)))))))) (el 11 rfl (el 115 rfl (el 2211 rfl (el 2312 rfl (el 3120 rfl en))))) ?_
            refine tri_reg mixed hcx ?_ _ _
            refine mv rfl ?_
            refine mv rfl ?_
            refine ld rfl rfl tyQ rfl ?_
            refine ixo rfl rfl rfl slQs (i := b.length - (s + 1)) ⟨by omega, by omega⟩ ?_
            refine so rfl rfl rfl (q_p (q' := cP D L (yL D L a b.length) (cB D L (yL D L a b.length) b.length s) (b.length - (s + 1)) s) (by rw [hqs]) (hs.cp s hs2 s (Nat.le_refl _))) tyQ ⟨rfl, by omega⟩ ?_
            refine ⟨by kernel_rfl, ?_⟩
            refine pn_blk ?_
            refine nx (sl 5 rfl (sl 7 rfl (sl 10 rfl (sl 11 rfl (sl 15 rfl (sl 16 rfl (sl 18 rfl sn))))))) (el 11 rfl (el 115 rfl (el 2211 rfl (el 2312 rfl (el 3120 rfl en))))) ?_
            refine tri_reg mixed hcx ?_ _ _
            refine mv rfl ?_
            refine sb (((b.length : Int) - 1 - ((s + 1 : Nat) : Int))) rfl rfl rfl (by omega) ?_
            refine asg rfl ?_
            refine ⟨by kernel_rfl, ?_⟩
            exact pn_back (s + 1) (by first | omega | (dsimp only; omega)) (by omega) (sl 5 rfl (sl 7 rfl (sl 10 rfl (sl 11 rfl (sl 15 rfl (sl 16 rfl (sw 18 rfl (ci (by omega)) sn))))))) (el 11 rfl (el 115 rfl (ew 2211 rfl (.of (by rw [cR_next hs2])) (ew 2312 rfl (box_q (q_qb (by rw [← hyi, ← hst _ hi3]; show _ = _ - (_ + _); grind) (hs.ds (s + 1) (by omega)))) en))))
        · refine tri_exit ?_
          repeat (first | refine pn_then ?_ | refine pn_oth (by decide) ?_)
          refine pn_ex ?_
          have hse : s = b.length := by omega
          refine nx (sl 5 rfl (sl 15 rfl (sl 16 rfl sn))) (el 11 rfl (el 115 rfl (el 2211 rfl (el 2312 rfl en)))) ?_
          refine tri_seq ?_
          refine tri_fz 2211 rfl ?_
          refine tri_rd 15 2211 rfl rfl ?_
          refine tri_as 15 (Z := T.l (cQp SN) ((cB D L (yL D L a b.length) b.length b.length).map nd)) rfl (.of (by rw [hse, cR_full])) ?_
          refine tri_reg mixed hcx ?_ _ _
          refine mv rfl ?_
          refine ld rfl rfl tyQ rfl ?_
          refine asg rfl ?_
          refine st rfl rfl rfl tyQ rfl ?_
          refine asg rfl ?_
          refine ⟨by kernel_rfl, ?_⟩
          refine nx (sl 4 rfl (sl 5 rfl (sl 6 rfl sn))) (el 11 rfl (el 115 rfl (el 2312 rfl en))) ?_
          refine tri_ret ?_
          repeat (first | refine pn_thenr ?_ | refine pn_blkr ?_)
          exact ret3 hcx rfl (rv_tmp rfl) (rv_cell (c' := cx) (n := 0) rfl rfl tyQ rfl) (rv_tmp rfl) (tup_le ⟨.refl _, q_eq (by rw [hse, sum_rev (fun j => (yL D L a b.length).getD j 0 * (yL D L a b.length).getD j 0 * stq D j)]) (Nat.le_refl _), .refl _, trivial⟩) en
end Go.Proofs.YtmfgnbchehnpjaaGreat.V
/- The nearest point: the law against the document. -/
set_option linter.unusedVariables false
set_option linter.unusedSimpArgs false
set_option maxRecDepth 100000
namespace Go.Proofs.YtmfgnbchehnpjaaGreat.V
open Go.RowKit Mt Nml
theorem coords_no {b : List (List Int)} {ts : List (Int × Int)} {k : Nat} (hk : k ≤ 1048576) (htl : ts.length ≤ 1048576) {r : Int} (hc : Fn Tryz.prog 4 [T.l (cL (cZi k)) b, T.l (cQi k) ts] [] [] [] (T.tup [T.c (.slice none 0 0), ZQ, T.c (.int .i64 r)])) (hd : Fn Tryz.prog 5 [T.l (cL (cZi k)) b, T.l (cQi k) ts] [] [] [] (T.tup [T.c (.slice none 0 0), ZQ, T.c (.int .i64 r)])) : Fn Tryz.prog 3 [T.l (cL (cZi k)) b, T.l (cQi k) ts] [] [] [] (T.c (.bool true)) := by
  refine fn_of Tryz.func3 rfl (by show 2 ≤ 59; decide) fun cx hcx => ?_
  refine tri_sub (sl 0 rfl (sl 1 rfl sn)) en ?_
  have hzq := zq0
  refine tri_seq ?_
  refine tri_reg mixed hcx ?_ _ _
  refine asg rfl ?_
  refine ⟨by kernel_rfl, ?_⟩
  refine nx (sl 0 rfl (sl 1 rfl sn)) en ?_
  refine tri_seq ?_
  refine tri_reg mixed hcx ?_ _ _
  refine mv rfl ?_
  refine mv rfl ?_
  refine ca rfl (h := hc) (hn := ?_)
  refine mv rfl ?_
  refine ex rfl rfl ?_
  refine ex rfl rfl ?_
  refine ex rfl rfl ?_
  refine nw 117 zeQ ?_
  refine asg rfl ?_
  refine sts rfl rfl rfl tyQ rfl ?_
  refine asg rfl ?_
  refine ⟨by kernel_rfl, ?_⟩
  refine nx (sl 0 rfl (sl 1 rfl (sl 5 rfl (sl 6 rfl (sl 7 rfl sn))))) (el 117 rfl en) ?_
  refine tri_seq ?_
  refine tri_reg mixed hcx ?_ _ _
  refine mv rfl ?_
  refine mv rfl ?_
  refine ca rfl (h := hd) (hn := ?_)
  refine mv rfl ?_
  refine ex rfl rfl ?_
  refine ex rfl rfl ?_
  refine ex rfl rfl ?_
  refine nw 217 zeQ ?_
  refine asg rfl ?_
  refine sts rfl rfl rfl tyQ rfl ?_
  refine asg rfl ?_
  refine ⟨by kernel_rfl, ?_⟩
  refine nx (sl 5 rfl (sl 6 rfl (sl 7 rfl (sl 8 rfl (sl 9 rfl (sl 10 rfl sn)))))) (el 117 rfl (el 217 rfl en)) ?_
  refine tri_seq ?_
  refine tri_seq ?_
  refine tri_reg mixed hcx ?_ _ _
  refine mv rfl ?_
  refine mv rfl ?_
  refine cne rfl rfl (decide_eq_false (by omega)) ?_
  refine mv rfl ?_
  refine mv rfl ?_ (hg := gd1)
  refine ln slQs rfl ?_ (hg := gd1)
  refine mv rfl ?_ (hg := gd1)
  refine ln slQs rfl ?_ (hg := gd1)
  refine cne rfl rfl (decide_eq_false (by omega)) ?_ (hg := gd1)
  refine pk rfl rfl ?_
  refine mv rfl ?_
  refine ld rfl rfl tyQ rfl ?_ (hg := gd1)
  refine ld rfl rfl tyQ rfl ?_ (hg := gd1)
  refine ca rfl (h := law_same (by omega) (by omega)) (hn := ?_) (hg := gd1)
  refine nt rfl _ rfl ?_ (hg := gd1)
  refine pk rfl rfl ?_
  refine ⟨by kernel_rfl, ?_⟩
  refine nx (sl 5 rfl (sl 8 rfl (sl 41 rfl sn))) (el 117 rfl (el 217 rfl en)) ?_
  refine tri_false rfl rfl ?_
  refine tri_skip ?_
  refine nx (sl 5 rfl (sl 8 rfl sn)) (el 117 rfl (el 217 rfl en)) ?_
  refine tri_seq ?_
  refine tri_seq ?_
  refine tri_reg mixed hcx ?_ _ _
  refine asg rfl ?_
  refine ⟨by kernel_rfl, ?_⟩
  refine nx (sl 5 rfl (sl 8 rfl (sl 11 rfl sn))) (el 117 rfl (el 217 rfl en)) ?_
  refine tri_block ?_
  refine tri_loop (ι := Nat) (fun i => [(5, T.c (.slice none 0 0)), (8, T.c (.slice none 0 0)), (11, T.c (.int .i64 0))]) (fun i => []) (fun i => 0) (fun i => (i = i)) 0 rfl (sl 5 rfl (sl 8 rfl (sl 11 rfl sn))) en ?_
  rintro i hi
  refine tri_sub (sl 5 rfl (sl 8 rfl (sl 11 rfl sn))) en ?_
  refine tri_seq ?_
  refine tri_seq ?_
  refine tri_reg mixed hcx ?_ _ _
  refine mv rfl ?_
  refine mv rfl ?_
  refine ln slQs rfl ?_
  refine clt rfl rfl (decide_eq_false (by omega)) ?_
  refine ⟨by kernel_rfl, ?_⟩
  refine nx (sl 5 rfl (sl 8 rfl (sl 11 rfl (sl 45 rfl sn)))) en ?_
  refine tri_false rfl rfl ?_
  refine tri_exit ?_
  repeat (first | refine pn_then ?_ | refine pn_oth (by decide) ?_)
  refine pn_ex ?_
  refine nx sn en ?_
  refine tri_seq ?_
  refine tri_reg mixed hcx ?_ _ _
  refine ca rfl (h := law_awake) (hn := ?_)
  refine asg rfl ?_
  refine ⟨by kernel_rfl, ?_⟩
  refine nx (sl 4 rfl sn) en ?_
  refine tri_ret ?_
  repeat (first | refine pn_thenr ?_ | refine pn_blkr ?_)
  exact ret1 hcx rfl (rv_tmp rfl) (.refl _) en

theorem coords_ok {b : List (List Int)} {ts : List (Int × Int)} {k : Nat} (hk : k ≤ 1048576) (htl : ts.length ≤ 1048576) {c : List Rat} {d : Rat} (hcl : c.length ≤ 1048576) (hc : Fn Tryz.prog 4 [T.l (cL (cZi k)) b, T.l (cQi k) ts] [] [] [] (T.tup [T.l (cQp SN) (c.map nd), T.Q d SN, T.c (.int .i64 0)])) (hd : Fn Tryz.prog 5 [T.l (cL (cZi k)) b, T.l (cQi k) ts] [] [] [] (T.tup [T.l (cQp SN) (c.map nd), T.Q d SN, T.c (.int .i64 0)])) : Fn Tryz.prog 3 [T.l (cL (cZi k)) b, T.l (cQi k) ts] [] [] [] (T.c (.bool true)) := by
  refine fn_of Tryz.func3 rfl (by show 2 ≤ 59; decide) fun cx hcx => ?_
  refine tri_sub (sl 0 rfl (sl 1 rfl sn)) en ?_
  have hSN : SN = 2147483648 := rfl
  have hcm : (c.map nd).length = c.length := List.length_map _
  refine tri_seq ?_
  refine tri_reg mixed hcx ?_ _ _
  refine asg rfl ?_
  refine ⟨by kernel_rfl, ?_⟩
  refine nx (sl 0 rfl (sl 1 rfl sn)) en ?_
  refine tri_seq ?_
  refine tri_reg mixed hcx ?_ _ _
  refine mv rfl ?_
  refine mv rfl ?_
  refine ca rfl (h := hc) (hn := ?_)
  refine mv rfl ?_
  refine ex rfl rfl ?_
  refine ex rfl rfl ?_
  refine ex rfl rfl ?_
  refine nw 117 zeQ ?_
  refine asg rfl ?_
  refine st rfl rfl rfl tyQ rfl ?_
  refine asg rfl ?_
  refine ⟨by kernel_rfl, ?_⟩
  refine nx (sl 0 rfl (sl 1 rfl (sl 5 rfl (sl 6 rfl (sl 7 rfl sn))))) (el 117 rfl en) ?_
  refine tri_seq ?_
  refine tri_reg mixed hcx ?_ _ _
  refine mv rfl ?_
  refine mv rfl ?_
  refine ca rfl (h := hd) (hn := ?_)
  refine mv rfl ?_
  refine ex rfl rfl ?_
  refine ex rfl rfl ?_
  refine ex rfl rfl ?_
  refine nw 217 zeQ ?_
  refine asg rfl ?_
  refine st rfl rfl rfl tyQ rfl ?_
  refine asg rfl ?_
  refine ⟨by kernel_rfl, ?_⟩
  refine nx (sl 5 rfl (sl 6 rfl (sl 7 rfl (sl 8 rfl (sl 9 rfl (sl 10 rfl sn)))))) (el 117 rfl (el 217 rfl en)) ?_
  refine tri_seq ?_
  refine tri_seq ?_
  refine tri_reg mixed hcx ?_ _ _
  refine mv rfl ?_
  refine mv rfl ?_
  refine cne rfl rfl (decide_eq_false (by omega)) ?_
  refine mv rfl ?_
  refine mv rfl ?_ (hg := gd1)
  refine ln slQs rfl ?_ (hg := gd1)
  refine mv rfl ?_ (hg := gd1)
  refine ln slQs rfl ?_ (hg := gd1)
  refine cne rfl rfl (decide_eq_false (by omega)) ?_ (hg := gd1)
  refine pk rfl rfl ?_
  refine mv rfl ?_
  refine ld rfl rfl tyQ rfl ?_ (hg := gd1)
  refine ld rfl rfl tyQ rfl ?_ (hg := gd1)
  refine ca rfl (h := law_same (by omega) (by omega)) (hn := ?_) (hg := gd1)
  refine nt rfl _ rfl ?_ (hg := gd1)
  refine pk rfl rfl ?_
  refine ⟨by kernel_rfl, ?_⟩
  refine nx (sl 5 rfl (sl 8 rfl (sl 41 rfl sn))) (el 117 rfl (el 217 rfl en)) ?_
  refine tri_false rfl rfl ?_
  refine tri_skip ?_
  refine nx (sl 5 rfl (sl 8 rfl sn)) (el 117 rfl (el 217 rfl en)) ?_
  refine tri_seq ?_
  refine tri_seq ?_
  refine tri_reg mixed hcx ?_ _ _
  refine asg rfl ?_
  refine ⟨by kernel_rfl, ?_⟩
  refine nx (sl 5 rfl (sl 8 rfl (sl 11 rfl sn))) (el 117 rfl (el 217 rfl en)) ?_
  refine tri_block ?_
  refine tri_loop (ι := Nat) (fun i => [(5, T.l (cQp SN) (c.map nd)), (8, T.l (cQp SN) (c.map nd)), (11, T.c (.int .i64 (i : Int)))]) (fun i => []) (fun i => c.length - i) (fun i => (i ≤ c.length)) 0 (Nat.zero_le _) (sl 5 rfl (sl 8 rfl (sl 11 rfl sn))) en ?_
  rintro i hi
  refine tri_sub (sl 5 rfl (sl 8 rfl (sl 11 rfl sn))) en ?_
  refine tri_seq ?_
  refine tri_seq ?_
  refine tri_reg mixed hcx ?_ _ _
  refine mv rfl ?_
  refine mv rfl ?_
  refine ln slQs rfl ?_
  refine clt rfl rfl rfl ?_
  refine ⟨by kernel_rfl, ?_⟩
  refine nx (sl 5 rfl (sl 8 rfl (sl 11 rfl (sl 45 rfl sn)))) en ?_
  refine tri_if rfl (fun hg => ?_) (fun hg => ?_)
  · have hi2 : i < c.length := by omega
    refine tri_skip ?_
    refine nx (sl 5 rfl (sl 8 rfl (sl 11 rfl sn))) en ?_
    refine tri_seq ?_
    refine tri_block ?_
    refine tri_seq ?_
    refine tri_reg mixed hcx ?_ _ _
    refine mv rfl ?_
    refine mv rfl ?_
    refine ix rfl rfl slQs ⟨rfl, by omega⟩ ?_
    refine lfx (X := T.Q (c.getD i 0) SN) rfl tyQ (p_q (map_nd hi2)) ?_
    refine mv rfl ?_
    refine mv rfl ?_
    refine ix rfl rfl slQs ⟨rfl, by omega⟩ ?_
    refine lfx (X := T.Q (c.getD i 0) SN) rfl tyQ (p_q (map_nd hi2)) ?_
    refine ca rfl (h := law_same (by omega) (by omega)) (hn := ?_)
    refine nt rfl _ rfl ?_
    refine ⟨by kernel_rfl, ?_⟩
    refine nx (sl 5 rfl (sl 8 rfl (sl 11 rfl (sl 57 rfl sn)))) en ?_
    refine tri_false rfl rfl ?_
    refine tri_skip ?_
    refine pn_blk ?_
    refine nx (sl 5 rfl (sl 8 rfl (sl 11 rfl sn))) en ?_
    refine tri_reg mixed hcx ?_ _ _
    refine mv rfl ?_
    refine ad (((i + 1 : Nat) : Int)) rfl rfl rfl (by omega) ?_
    refine asg rfl ?_
    refine ⟨by kernel_rfl, ?_⟩
    exact pn_back (i + 1) (by first | omega | (dsimp only; omega)) (by omega) (sl 5 rfl (sl 8 rfl (sl 11 rfl sn))) en
  · refine tri_exit ?_
    repeat (first | refine pn_then ?_ | refine pn_oth (by decide) ?_)
    refine pn_ex ?_
    refine nx sn en ?_
    refine tri_seq ?_
    refine tri_reg mixed hcx ?_ _ _
    refine ca rfl (h := law_awake) (hn := ?_)
    refine asg rfl ?_
    refine ⟨by kernel_rfl, ?_⟩
    refine nx (sl 4 rfl sn) en ?_
    refine tri_ret ?_
    repeat (first | refine pn_thenr ?_ | refine pn_blkr ?_)
    exact ret1 hcx rfl (rv_tmp rfl) (.refl _) en

/-- The law, of all rows and points. -/
theorem coords_all {b : List (List Int)} {ts : List (Int × Int)} {k : Nat} (hk : k ≤ 1048576) (hrr : ∀ i, i < b.length → (b.getD i []).length ≤ 1048576) (hbl : b.length ≤ 1048576) (htl : ts.length ≤ 1048576) : Fn Tryz.prog 3 [T.l (cL (cZi k)) b, T.l (cQi k) ts] [] [] [] (T.c (.bool true)) := by
  obtain ⟨r, hR⟩ := ShR.ex b true
  by_cases hr : r = 0
  · subst hr
    obtain ⟨h0, hb, hm, hm12, hbits⟩ := shr_basis hR
    have hS := val_S hbits (fun i hi => by rw [hm i hi]; exact hm12)
    cases h : bld b b.length with
    | none => exact coords_no hk htl (g_Coords_err hk htl (g_Valid_no (K := 839679) h0 hb hm hk hm12 hR h hS (by decide) (by decide) (by decide)) (by decide)) (r05_Coords_err (Z := T.any) hk htl (r05_check_no_t (K := 839679) (bld_none h) h0 hb hm hk hm12 hR hS (by decide) (by decide) (by decide)) (by decide))
    | some p =>
      obtain ⟨D, L⟩ := p
      have hv := g_Valid_ok (K := 839679) h0 hb hm hk hm12 hR h hS (by decide) (by decide) (by decide)
      obtain ⟨hI, hD, hL, hp, hG, hLn, hbz⟩ := data_of hR h
      have hv5 := r05_check_ok_t (K := 839679) hI.ok h0 hb hm hk hm12 hR hS (by decide) (by decide) (by decide)
      by_cases hts : ts.length = (b.getD 0 []).length
      · by_cases htp : ∀ i, i < ts.length → 0 < (ts.getD i (0, 0)).2
        · refine fn_qz fun htz => ?_
          have hs := sizes_of hI hD hL hp hb hm12 hts htp (fun i hi => ⟨Nat.le_trans (htz i hi).1 hk, Nat.le_trans (htz i hi).2 hk⟩) hbz
          have hl := g_lies (a := fun i => alq ts (b.getD i []) (b.getD 0 []).length) (g_Wide_ok (K := 839679) h0 hb hm hk hm12 (shr_wide hR) h hS (by decide) (by decide) (by decide)) hG hLn (by decide) hm hts hm12 hb htp hk (fun _ _ => rfl) hs
          have hN := near_of hI (fun i => alq ts (b.getD i []) (b.getD 0 []).length)
          have hd := r05_Coords_ok (a := fun i => alq ts (b.getD i []) (b.getD 0 []).length) hv5 hI (by decide) hm hts hm12 hb h0 htp hk (fun _ _ => rfl) hs
          have e := hq_far hm hN
          have e2 : ∀ _ : Nat, sumN (fun j => (yL D L (fun i => alq ts (b.getD i []) (b.getD 0 []).length) b.length).getD j 0 * (yL D L (fun i => alq ts (b.getD i []) (b.getD 0 []).length) b.length).getD j 0 * stq D j) b.length = sumN (fun l => (yL D L (fun i => alq ts (b.getD i []) (b.getD 0 []).length) b.length).getD l 0 * (yL D L (fun i => alq ts (b.getD i []) (b.getD 0 []).length) b.length).getD l 0 * sR b l) b.length := fun n => sum_congr fun j hj => by rw [show stq D j = sR b j from hI.star hj]
          rw [e2 0, ← e] at hd
          exact coords_ok hk htl (by rw [cB_len]; omega) (g_Coords_ok hk htl hv h0 rfl hm12 hts htp hl) hd
        · obtain ⟨w, hw, hw1, hw2⟩ := den_bad htp
          exact coords_no hk htl (g_Coords_rat hk htl hv h0 rfl hm12 hts hw hw1 hw2) (r05_Coords_rat hk htl hv5 h0 rfl hm12 hts hw hw1 hw2)
      · exact coords_no hk htl (g_Coords_shape hk htl hv h0 rfl hm12 hts) (r05_Coords_shape hk htl hv5 h0 rfl hm12 hts)
  · exact coords_no hk htl (g_Coords_err hk htl (g_Valid_err hk hrr hbl hR hr) hr) (r05_Coords_err (Z := T.any) hk htl (r05_check_err_t hk hrr hbl hR hr) hr)
end Go.Proofs.YtmfgnbchehnpjaaGreat.V
