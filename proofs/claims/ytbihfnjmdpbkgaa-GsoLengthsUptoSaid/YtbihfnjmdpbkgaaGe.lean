/- The data of rows: how large, and that the squared length of a sum of rows is what the data say. -/
import Derived.Test.YtbihfnjmdpbkgaaKR
set_option linter.unusedVariables false
namespace Go.Proofs.Ytbihfnjmdpbkgaa.V
open Mt Nml
theorem RI.row {b : List (List Int)} {D : List Int} {L : List (List Int)} {S i : Nat} (hB : BI S i D L) (hS : ∀ j, j ≤ i → zl (gU b i j) ≤ S) : ∀ j, j ≤ i + 1 → RI S j (rowU b D L i j)
  | 0, _ => RI.zero S
  | j + 1, hj => by
    have h := RI.row hB hS j (by omega)
    unfold rowU
    exact h.snoc (red_bd hB h (by omega) (hS j (by omega)) (Nat.le_refl _))
theorem bld_BI {b : List (List Int)} {S : Nat} (hS : ∀ i j, i < b.length → j ≤ i → zl (gU b i j) ≤ S) : ∀ {i : Nat} {D : List Int} {L : List (List Int)}, i ≤ b.length → bld b i = some (D, L) → BI S i D L
  | 0, D, L, _, h => by cases h; exact BI.zero S
  | i + 1, D, L, hi, h => by
    obtain ⟨D', L', h1, h2, h3⟩ := bld_prev h
    cases h3
    have hB := bld_BI hS (by omega) h1
    exact hB.step (RI.row hB (fun j hj => hS i j (by omega) hj) (i + 1) (Nat.le_refl _)) h2
theorem Ok.mono {b : List (List Int)} {m n : Nat} (h : Ok b n) (hm : m ≤ n) : Ok b m := fun k hk => h k (by omega)
/-- A numerator, and its size. -/
theorem num_bd {b : List (List Int)} {S : Nat} (hS : ∀ i j, i < b.length → j ≤ i → zl (gU b i j) ≤ S) {i j k : Nat} (hok : Ok b i) (hi : i < b.length) (hk : k ≤ j) (hj : j ≤ i) : ∃ z : Int, (z : Rat) = pb b k * Mr (gR b) k i j ∧ zl z ≤ bd S k := by
  obtain ⟨D, L, hD⟩ := bld_of_ok hok
  have hB := bld_BI hS (by omega) hD
  have hI := bld_DI hD
  have hR := RI.row hB (fun j hj => hS i j hi hj) j (by omega)
  exact ⟨_, red_exact hI hj (fun k hk => row_exact hI j (by omega) k hk) k hk, red_bd hB hR hj (hS i j hi hj) hk⟩
theorem den_bd {b : List (List Int)} {S : Nat} (hS : ∀ i j, i < b.length → j ≤ i → zl (gU b i j) ≤ S) (h1 : 1 ≤ S) {k : Nat} (hok : Ok b k) (hi : k ≤ b.length) : ∃ z : Int, (z : Rat) = pb b k ∧ zl z ≤ bd S k ∧ z ≠ 0 := by
  have hp := rat_pos_ne (pb_pos hok k (Nat.le_refl _))
  have nz : ∀ z : Int, (z : Rat) = pb b k → z ≠ 0 := fun z e h => hp (by rw [← e, h]; rfl)
  cases k with
  | zero => exact ⟨1, rfl, by rw [bd_zero]; exact Nat.le_trans zl_one h1, by decide⟩
  | succ k =>
    obtain ⟨z, h2, h3⟩ := num_bd hS (hok.mono (Nat.le_succ k)) (show k < b.length by omega) (Nat.le_refl k) (Nat.le_refl k)
    rw [← pb_succ] at h2
    exact ⟨z, h2, Nat.le_trans h3 (bd_mono (Nat.le_succ k)), nz z h2⟩
theorem mr_QB {b : List (List Int)} {S : Nat} (hS : ∀ i j, i < b.length → j ≤ i → zl (gU b i j) ≤ S) (h1 : 1 ≤ S) {i j k : Nat} (hok : Ok b i) (hi : i < b.length) (hk : k ≤ j) (hj : j ≤ i) : QB (Mr (gR b) k i j) (bd S k) := by
  obtain ⟨z, e1, b1⟩ := num_bd hS hok hi hk hj
  obtain ⟨d, e2, b2, n2⟩ := den_bd hS h1 (hok.mono (show k ≤ i by omega)) (by omega)
  have e : Mr (gR b) k i j = (z : Rat) / (d : Rat) := by
    have h0 := rat_ne n2
    rw [e2] at h0
    rw [e1, e2, Rat.mul_comm, Rat.mul_div_cancel h0]
  rw [e]
  have := qb_div b1 b2 n2
  rwa [Nat.max_self] at this
theorem mR_QB {b : List (List Int)} {S : Nat} (hS : ∀ i j, i < b.length → j ≤ i → zl (gU b i j) ≤ S) {i j : Nat} (hok : Ok b i) (hi : i < b.length) (hj : j < i) : QB (mR b i j) (bd S j) := by
  obtain ⟨z, e1, b1⟩ := num_bd hS hok hi (Nat.le_refl j) (by omega)
  obtain ⟨d, e2, b2⟩ := num_bd hS (hok.mono (show j ≤ i by omega)) (show j < b.length by omega) (Nat.le_refl j) (Nat.le_refl j)
  have hp := rat_pos_ne (pb_pos (hok.mono (show j ≤ i by omega)) j (Nat.le_refl _))
  have hm := ok_ne hok hj
  have n2 : d ≠ 0 := fun h => by
    rw [h] at e2
    rcases Rat.mul_eq_zero.1 e2.symm with h | h
    · exact hp h
    · exact hm h
  have e : mR b i j = (z : Rat) / (d : Rat) := by
    unfold mR
    rw [e1, e2]
    generalize Mr (gR b) j j j = m at hm
    generalize Mr (gR b) j i j = x
    generalize pb b j = p at hp
    grind
  rw [e]
  have := qb_div b1 b2 n2
  rwa [Nat.max_self] at this
/-- Sums of fractions. -/
def sumN (f : Nat → Rat) : Nat → Rat
  | 0 => 0
  | n + 1 => sumN f n + f n
theorem sum_congr {f g : Nat → Rat} : ∀ {n : Nat}, (∀ i, i < n → f i = g i) → sumN f n = sumN g n
  | 0, _ => rfl
  | n + 1, h => by show sumN f n + f n = sumN g n + g n; rw [sum_congr fun i hi => h i (by omega), h n (by omega)]
theorem sum_add (f g : Nat → Rat) : ∀ n, sumN (fun i => f i + g i) n = sumN f n + sumN g n
  | 0 => by show (0 : Rat) = 0 + 0; grind
  | n + 1 => by show sumN _ n + (f n + g n) = sumN f n + f n + (sumN g n + g n); rw [sum_add f g n]; grind
theorem sum_mul (c : Rat) (f : Nat → Rat) : ∀ n, sumN (fun i => c * f i) n = c * sumN f n
  | 0 => by show (0 : Rat) = c * 0; grind
  | n + 1 => by show sumN _ n + c * f n = c * (sumN f n + f n); rw [sum_mul c f n]; grind
theorem sum_zero {f : Nat → Rat} {n : Nat} (h : ∀ i, i < n → f i = 0) : sumN f n = 0 := by
  rw [sum_congr (g := fun _ => 0 * 0) fun i hi => by rw [h i hi]; grind]
  rw [sum_mul]; grind
theorem sum_swap (f : Nat → Nat → Rat) (m : Nat) : ∀ n, sumN (fun i => sumN (f i) m) n = sumN (fun j => sumN (fun i => f i j) n) m
  | 0 => by show (0 : Rat) = sumN (fun _ => 0) m; exact (sum_zero fun _ _ => rfl).symm
  | n + 1 => by
    show sumN _ n + sumN (f n) m = sumN (fun j => sumN (fun i => f i j) n + f n j) m
    rw [sum_swap f m n, sum_add]
/-- What elimination has done away with. -/
theorem mr_zero {b : List (List Int)} {n : Nat} (h : Ok b n) : ∀ k, k ≤ n → ∀ j, j < k → ∀ c, Mr (gR b) k j c = 0
  | 0, _, j, hj, c => absurd hj (Nat.not_lt_zero _)
  | k + 1, hk, j, hj, c => by
    show Mr (gR b) k j c + -(Mr (gR b) k j k / Mr (gR b) k k k) * Mr (gR b) k k c = 0
    have hm := ok_ne h (show k < n by omega)
    rcases Nat.lt_or_eq_of_le (Nat.le_of_lt_succ hj) with h1 | h1
    · rw [mr_zero h k (by omega) j h1 c, mr_zero h k (by omega) j h1 k]
      rw [Rat.div_def]; grind
    · subst h1
      generalize Mr (gR b) j j j = m at hm
      generalize Mr (gR b) j j c = x
      grind
/-- The form that is left behind k steps. -/
def QF (b : List (List Int)) (x : Nat → Rat) (n k : Nat) : Rat := sumN (fun j => x j * sumN (fun l => x l * Mr (gR b) k j l) n) n
def YF (b : List (List Int)) (x : Nat → Rat) (n k : Nat) : Rat := sumN (fun j => x j * Mr (gR b) k j k) n / Mr (gR b) k k k
theorem qf_step {b : List (List Int)} {x : Nat → Rat} {n k : Nat} (h : Mr (gR b) k k k ≠ 0) : QF b x n k = QF b x n (k + 1) + YF b x n k * YF b x n k * sR b k := by
  have e1 : ∀ j, sumN (fun l => x l * Mr (gR b) k j l) n = sumN (fun l => x l * Mr (gR b) (k + 1) j l) n + Mr (gR b) k j k / Mr (gR b) k k k * sumN (fun l => x l * Mr (gR b) k k l) n := fun j => by
    rw [← sum_mul, ← sum_add]
    refine sum_congr fun l _ => ?_
    show _ = x l * (Mr (gR b) k j l + -(Mr (gR b) k j k / Mr (gR b) k k k) * Mr (gR b) k k l) + _
    grind
  have e2 : sumN (fun l => x l * Mr (gR b) k k l) n = sumN (fun l => x l * Mr (gR b) k l k) n := sum_congr fun l _ => by rw [mr_symm (gR_symm b) k k l]
  unfold QF
  rw [sum_congr (g := fun j => x j * sumN (fun l => x l * Mr (gR b) (k + 1) j l) n + (sumN (fun l => x l * Mr (gR b) k l k) n / Mr (gR b) k k k) * (x j * Mr (gR b) k j k)) (fun j _ => by rw [e1, e2, Rat.div_def, Rat.div_def]; grind), sum_add, sum_mul]
  congr 1
  unfold YF sR
  generalize sumN (fun l => x l * Mr (gR b) k l k) n = s
  generalize Mr (gR b) k k k = m at h
  grind
theorem qf_end {b : List (List Int)} {x : Nat → Rat} {n : Nat} (h : Ok b n) : QF b x n n = 0 :=
  sum_zero fun j hj => by rw [sum_zero (f := fun l => x l * Mr (gR b) n j l) fun l _ => by rw [mr_zero h n (Nat.le_refl _) j hj l]; grind]; grind
theorem qf_sum {b : List (List Int)} {x : Nat → Rat} {n : Nat} (h : Ok b n) : ∀ k, k ≤ n → QF b x n 0 = QF b x n k + sumN (fun i => YF b x n i * YF b x n i * sR b i) k
  | 0, _ => by show _ = _ + (0 : Rat); grind
  | k + 1, hk => by
    show _ = _ + (sumN _ k + _)
    rw [qf_sum h k (by omega), qf_step (ok_ne h (show k < n by omega))]
    grind
theorem qf_all {b : List (List Int)} {x : Nat → Rat} {n : Nat} (h : Ok b n) : sumN (fun i => YF b x n i * YF b x n i * sR b i) n = QF b x n 0 := by
  rw [qf_sum h n (Nat.le_refl _), qf_end h]; grind
theorem sum_split (f : Nat → Rat) (m : Nat) : ∀ d, sumN f (m + d) = sumN f m + sumN (fun i => f (m + i)) d
  | 0 => by show _ = _ + (0 : Rat); rw [Nat.add_zero]; grind
  | d + 1 => by show sumN f (m + d) + f (m + d) = _ + (sumN _ d + _); rw [sum_split f m d]; grind
/-- The data's numbers as fractions. -/
theorem DI.star {b : List (List Int)} {n : Nat} {D : List Int} {L : List (List Int)} (h : DI b n D L) {i : Nat} (hi : i < n) : ((D.getD (i + 1) 0 : Int) : Rat) / ((D.getD i 0 : Int) : Rat) = sR b i := by
  have hp := rat_pos_ne (pb_pos h.ok i (by omega))
  rw [h.d (i + 1) (by omega), h.d i (by omega), pb_succ]
  show pb b i * sR b i / pb b i = _
  generalize sR b i = s
  generalize pb b i = p at hp
  grind
theorem DI.mu {b : List (List Int)} {n : Nat} {D : List Int} {L : List (List Int)} (h : DI b n D L) {i j : Nat} (hi : i < n) (hj : j < i) : (((L.getD i []).getD j 0 : Int) : Rat) / ((D.getD (j + 1) 0 : Int) : Rat) = mR b i j := by
  have hp := rat_pos_ne (pb_pos h.ok j (by omega))
  have hm := ok_ne h.ok (show j < n by omega)
  rw [h.d (j + 1) (by omega), h.l i j hi hj, pb_succ]
  unfold mR
  generalize Mr (gR b) j j j = m at hm
  generalize Mr (gR b) j i j = x
  generalize pb b j = p at hp
  grind
theorem yU_YF {b : List (List Int)} {n : Nat} {D : List Int} {L : List (List Int)} (h : DI b n D L) (x : List Int) {i : Nat} (hi : i < n) : ∀ t, i + 1 + t ≤ n → yU D L x i t = sumN (fun j => ((x.getD j 0 : Int) : Rat) * Mr (gR b) i j i) (i + 1 + t) / Mr (gR b) i i i
  | 0, _ => by
    have hm := ok_ne h.ok hi
    show ((x.getD i 0 : Int) : Rat) = (sumN (fun j => ((x.getD j 0 : Int) : Rat) * Mr (gR b) i j i) i + ((x.getD i 0 : Int) : Rat) * Mr (gR b) i i i) / _
    rw [sum_zero (n := i) (fun j hj => by rw [mr_zero h.ok i (by omega) j hj i]; grind)]
    generalize Mr (gR b) i i i = m at hm
    grind
  | t + 1, ht => by
    have hm := ok_ne h.ok hi
    have e := h.mu (i := i + 1 + t) (j := i) (by omega) (by omega)
    show yU D L x i t + ((x.getD (i + 1 + t) 0 * (L.getD (i + 1 + t) []).getD i 0 : Int) : Rat) / ((D.getD (i + 1) 0 : Int) : Rat) = (sumN (fun j => ((x.getD j 0 : Int) : Rat) * Mr (gR b) i j i) (i + 1 + t) + ((x.getD (i + 1 + t) 0 : Int) : Rat) * Mr (gR b) i (i + 1 + t) i) / _
    rw [yU_YF h x hi t (by omega), ← mul_swap, e]
    unfold mR
    generalize Mr (gR b) i i i = m at hm
    grind
theorem sU_sum {b : List (List Int)} {n : Nat} {D : List Int} {L : List (List Int)} (h : DI b n D L) (x : List Int) : ∀ i, i ≤ n → sU D L x n i = sumN (fun k => YF b (fun j => ((x.getD j 0 : Int) : Rat)) n k * YF b (fun j => ((x.getD j 0 : Int) : Rat)) n k * sR b k) i
  | 0, _ => rfl
  | i + 1, hi => by
    show sU D L x n i + yU D L x i (n - (i + 1)) * yU D L x i (n - (i + 1)) * _ = sumN _ i + _
    rw [sU_sum h x i (by omega), h.star (by omega), yU_YF h x (by omega) (n - (i + 1)) (by omega), show i + 1 + (n - (i + 1)) = n by omega]
    rfl
/-- The squared length of a sum of rows, by the data, is the form of the products. -/
theorem sU_form {b : List (List Int)} {n : Nat} {D : List Int} {L : List (List Int)} (h : DI b n D L) (x : List Int) : sU D L x n n = sumN (fun j => ((x.getD j 0 : Int) : Rat) * sumN (fun l => ((x.getD l 0 : Int) : Rat) * ((gU b j l : Int) : Rat)) n) n := by
  rw [sU_sum h x n (Nat.le_refl _), qf_all h.ok]; rfl
/-! ### sums of rows -/
/-- The sum of the first k rows, each so many times; m numbers. -/
def vU (b : List (List Int)) (x : List Int) (m : Nat) : Nat → List Int
  | 0 => List.replicate m 0
  | k + 1 => (List.range m).map fun c => (vU b x m k).getD c 0 + x.getD k 0 * (b.getD k []).getD c 0
theorem vU_len (b : List (List Int)) (x : List Int) (m : Nat) : ∀ k, (vU b x m k).length = m
  | 0 => by simp [vU]
  | k + 1 => by simp [vU]
theorem vU_at (b : List (List Int)) (x : List Int) (m : Nat) : ∀ k c, c < m → (((vU b x m k).getD c 0 : Int) : Rat) = sumN (fun j => ((x.getD j 0 : Int) : Rat) * (((b.getD j []).getD c 0 : Int) : Rat)) k
  | 0, c, hc => by
    show (((List.replicate m (0 : Int)).getD c 0 : Int) : Rat) = 0
    rw [List.getD_eq_getElem?_getD, List.getElem?_replicate]; split <;> rfl
  | k + 1, c, hc => by
    show ((((List.range m).map _).getD c 0 : Int) : Rat) = sumN _ k + _
    rw [rng_at hc, Rat.intCast_add, Rat.intCast_mul, vU_at b x m k c hc]
theorem dot_sum (xs ys : List Int) : ∀ n, ((dotU xs ys n : Int) : Rat) = sumN (fun c => ((xs.getD c 0 : Int) : Rat) * ((ys.getD c 0 : Int) : Rat)) n
  | 0 => rfl
  | n + 1 => by
    show ((dotU xs ys n + _ : Int) : Rat) = sumN _ n + _
    rw [Rat.intCast_add, Rat.intCast_mul, dot_sum xs ys n]
theorem sum_prod (f g : Nat → Rat) (m n : Nat) : sumN f m * sumN g n = sumN (fun i => f i * sumN g n) m := by
  rw [sum_congr (g := fun i => sumN g n * f i) (fun i _ => Rat.mul_comm _ _), sum_mul]; grind
theorem form_dot {b : List (List Int)} {x : List Int} {m n : Nat} (hm : ∀ j, j < n → (b.getD j []).length = m) : sumN (fun j => ((x.getD j 0 : Int) : Rat) * sumN (fun l => ((x.getD l 0 : Int) : Rat) * ((gU b j l : Int) : Rat)) n) n = ((dotU (vU b x m n) (vU b x m n) m : Int) : Rat) := by
  rw [dot_sum]
  rw [sum_congr (n := m) (g := fun c => sumN (fun j => sumN (fun l => (((x.getD j 0 : Int) : Rat) * (((b.getD j []).getD c 0 : Int) : Rat)) * (((x.getD l 0 : Int) : Rat) * (((b.getD l []).getD c 0 : Int) : Rat))) n) n) (fun c hc => by
    rw [vU_at b x m n c hc, sum_prod]
    exact sum_congr fun j _ => (sum_mul _ _ n).symm)]
  rw [← sum_swap]
  refine sum_congr fun j hj => ?_
  rw [← sum_swap, ← sum_mul]
  refine sum_congr fun l hl => ?_
  show _ * (_ * ((dotU (b.getD j []) (b.getD l []) (b.getD j []).length : Int) : Rat)) = _
  rw [hm j hj, dot_sum, ← sum_mul, ← sum_mul]
  exact sum_congr fun c _ => by grind
theorem norm_len {b : List (List Int)} {x : List Int} {m n : Nat} {D : List Int} {L : List (List Int)} (h : DI b n D L) (hm : ∀ j, j < n → (b.getD j []).length = m) : sU D L x n n = ((dotU (vU b x m n) (vU b x m n) m : Int) : Rat) := by rw [sU_form h, form_dot hm]
theorem DI.good {b : List (List Int)} {n : Nat} {D : List Int} {L : List (List Int)} (h : DI b n D L) (hn : 0 < n) : GoodP D L := by
  have hpos : ∀ k, k ≤ n → 0 < D.getD k 0 := fun k hk => by
    have := pb_pos h.ok k hk
    rw [← h.d k hk] at this
    exact Rat.intCast_pos.1 this
  refine ⟨by rw [h.lL]; exact hn, by rw [h.lD, h.lL], ?_, fun i hi => ?_⟩
  · have := h.d 0 (Nat.zero_le _)
    exact Rat.intCast_inj.1 (this.trans rfl)
  · rw [h.lL] at hi
    exact ⟨h.lr i hi, hpos (i + 1) (by omega)⟩
theorem bld_none {b : List (List Int)} {n : Nat} (h : bld b n = none) : ¬ Ok b n := fun hok => by
  obtain ⟨D, L, e⟩ := bld_of_ok hok
  rw [h] at e; cases e
end Go.Proofs.Ytbihfnjmdpbkgaa.V
