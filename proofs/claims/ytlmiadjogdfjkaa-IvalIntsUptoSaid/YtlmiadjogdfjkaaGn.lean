/- The squared length of a sum of rows, by the data: what is reckoned, and how large its parts are. -/
import Derived.Test.YtlmiadjogdfjkaaGm
set_option linter.unusedVariables false
namespace Go.Proofs.Ytlmiadjogdfjkaa.V
open Mt Nml
/-- The numerator of row i's part behind t steps, over D[i + 1]. -/
def nuU (D : List Int) (L : List (List Int)) (x : List Int) (i : Nat) : Nat → Int
  | 0 => x.getD i 0 * D.getD (i + 1) 0
  | t + 1 => nuU D L x i t + x.getD (i + 1 + t) 0 * (L.getD (i + 1 + t) []).getD i 0
/-- Row i's part behind t steps. -/
def yU (D : List Int) (L : List (List Int)) (x : List Int) (i : Nat) : Nat → Rat
  | 0 => ((x.getD i 0 : Int) : Rat)
  | t + 1 => yU D L x i t + ((x.getD (i + 1 + t) 0 * (L.getD (i + 1 + t) []).getD i 0 : Int) : Rat) / ((D.getD (i + 1) 0 : Int) : Rat)
/-- The sum behind i rows of n. -/
def sU (D : List Int) (L : List (List Int)) (x : List Int) (n : Nat) : Nat → Rat
  | 0 => 0
  | i + 1 => sU D L x n i + yU D L x i (n - (i + 1)) * yU D L x i (n - (i + 1)) * (((D.getD (i + 1) 0 : Int) : Rat) / ((D.getD i 0 : Int) : Rat))
def pU (D : List Int) : Nat → Int
  | 0 => 1
  | i + 1 => pU D i * (D.getD i 0 * D.getD (i + 1) 0)
def muU (D : List Int) (L : List (List Int)) (x : List Int) (n : Nat) : Nat → Int
  | 0 => 0
  | i + 1 => muU D L x n i * (D.getD i 0 * D.getD (i + 1) 0) + nuU D L x i (n - (i + 1)) * nuU D L x i (n - (i + 1)) * pU D i
theorem rat_ne {z : Int} (h : z ≠ 0) : (z : Rat) ≠ 0 := fun e => h (Rat.intCast_inj.1 (by rw [e]; rfl))
theorem yU_nu {D : List Int} {L : List (List Int)} {x : List Int} {i : Nat} (h : D.getD (i + 1) 0 ≠ 0) : ∀ t, yU D L x i t = ((nuU D L x i t : Int) : Rat) / ((D.getD (i + 1) 0 : Int) : Rat)
  | 0 => by
    show ((x.getD i 0 : Int) : Rat) = ((x.getD i 0 * D.getD (i + 1) 0 : Int) : Rat) / _
    rw [Rat.intCast_mul, Rat.mul_div_cancel (rat_ne h)]
  | t + 1 => by
    show yU D L x i t + _ / _ = ((nuU D L x i t + _ : Int) : Rat) / _
    rw [yU_nu h t, Rat.intCast_add, Rat.div_def, Rat.div_def, Rat.div_def, Rat.add_mul]
theorem nu_bd {D : List Int} {L : List (List Int)} {x : List Int} {i k : Nat} (hx : ∀ j, zl (x.getD j 0) ≤ k) (hD : zl (D.getD (i + 1) 0) ≤ k) (hL : ∀ j, zl ((L.getD j []).getD i 0) ≤ k) : ∀ t, zl (nuU D L x i t) ≤ k + k + t
  | 0 => show zl (x.getD i 0 * D.getD (i + 1) 0) ≤ k + k from zl_mul (hx i) hD
  | t + 1 => zl_add_max (nu_bd hx hD hL t) (Nat.le_trans (zl_mul (hx _) (hL _)) (Nat.le_add_right _ _))
theorem p_ne {D : List Int} : ∀ {n : Nat}, (∀ i, i ≤ n → D.getD i 0 ≠ 0) → pU D n ≠ 0
  | 0, _ => by show (1 : Int) ≠ 0; decide
  | n + 1, h => Int.mul_ne_zero (p_ne fun i hi => h i (by omega)) (Int.mul_ne_zero (h n (by omega)) (h (n + 1) (by omega)))
theorem frac_sum {m p n a b : Rat} (hp : p ≠ 0) (ha : a ≠ 0) (hb : b ≠ 0) : m / p + n / b * (n / b) * (b / a) = (m * (a * b) + n * n * p) / (p * (a * b)) := by grind
theorem sU_mu {D : List Int} {L : List (List Int)} {x : List Int} {n : Nat} : ∀ {i : Nat}, (∀ j, j ≤ i → D.getD j 0 ≠ 0) → sU D L x n i = ((muU D L x n i : Int) : Rat) / ((pU D i : Int) : Rat)
  | 0, _ => by show (0 : Rat) = ((0 : Int) : Rat) / ((1 : Int) : Rat); simp [Rat.div_def]
  | i + 1, h => by
    show sU D L x n i + yU D L x i _ * yU D L x i _ * _ = ((muU D L x n i * (D.getD i 0 * D.getD (i + 1) 0) + nuU D L x i (n - (i + 1)) * nuU D L x i (n - (i + 1)) * pU D i : Int) : Rat) / ((pU D i * (D.getD i 0 * D.getD (i + 1) 0) : Int) : Rat)
    rw [sU_mu (i := i) (fun j hj => h j (by omega)), yU_nu (h (i + 1) (Nat.le_refl _)), frac_sum (rat_ne (p_ne fun j hj => h j (by omega))) (rat_ne (h i (by omega))) (rat_ne (h (i + 1) (by omega)))]
    simp only [Rat.intCast_add, Rat.intCast_mul]
theorem p_bd {D : List Int} {k : Nat} : ∀ {n : Nat}, (∀ i, i ≤ n → zl (D.getD i 0) ≤ k) → zl (pU D n) ≤ 1 + n * (k + k)
  | 0, _ => Nat.le_trans zl_one (by omega)
  | n + 1, h => by
    rw [Nat.succ_mul, ← Nat.add_assoc]
    exact zl_mul (p_bd fun i hi => h i (by omega)) (zl_mul (h n (by omega)) (h (n + 1) (by omega)))
theorem mu_bd {D : List Int} {L : List (List Int)} {x : List Int} {n k : Nat} (hx : ∀ j, zl (x.getD j 0) ≤ k) (hL : ∀ i j, zl ((L.getD j []).getD i 0) ≤ k) : ∀ {i : Nat}, (∀ j, j ≤ i → zl (D.getD j 0) ≤ k) → zl (muU D L x n i) ≤ i * (k + k + 1) + (2 * (k + k + n) + 1)
  | 0, _ => by rw [show muU D L x n 0 = 0 from rfl, show zl 0 = 0 from by unfold zl; exact lim_zero]; omega
  | i + 1, h => by
    have h1 := mu_bd (n := n) hx hL (i := i) (fun j hj => h j (by omega))
    have h2 := zl_mul h1 (zl_mul (h i (by omega)) (h (i + 1) (by omega)))
    have h3 := nu_bd (D := D) (L := L) (x := x) (i := i) (k := k) hx (h (i + 1) (by omega)) (hL i) (n - (i + 1))
    have h4 := zl_mul (zl_mul h3 h3) (p_bd (D := D) (n := i) (fun j hj => h j (by omega)))
    have e : (i + 1) * (k + k + 1) = i * (k + k) + i + (k + k + 1) := by rw [Nat.succ_mul, Nat.mul_add, Nat.mul_one]
    have e2 : i * (k + k + 1) = i * (k + k) + i := by rw [Nat.mul_add, Nat.mul_one]
    rw [e]
    rw [e2] at h2
    exact Nat.le_trans (zl_add_max (k := i * (k + k) + i + (k + k) + (2 * (k + k + n) + 1)) (Nat.le_trans h2 (by omega)) (Nat.le_trans h4 (by omega))) (by omega)
theorem y_QB {D : List Int} {L : List (List Int)} {x : List Int} {i k t : Nat} (hx : ∀ j, zl (x.getD j 0) ≤ k) (hD : zl (D.getD (i + 1) 0) ≤ k) (hL : ∀ j, zl ((L.getD j []).getD i 0) ≤ k) (h : D.getD (i + 1) 0 ≠ 0) : QB (yU D L x i t) (k + k + t) := by
  rw [yU_nu h t]
  have := qb_div (nu_bd hx hD hL t) hD h
  exact ⟨Nat.le_trans this.1 (Nat.max_le.2 ⟨Nat.le_refl _, by omega⟩), Nat.le_trans this.2 (Nat.max_le.2 ⟨Nat.le_refl _, by omega⟩)⟩
theorem s_QB {D : List Int} {L : List (List Int)} {x : List Int} {n i k : Nat} (hx : ∀ j, zl (x.getD j 0) ≤ k) (hL : ∀ i j, zl ((L.getD j []).getD i 0) ≤ k) (hD : ∀ j, j ≤ i → zl (D.getD j 0) ≤ k) (h : ∀ j, j ≤ i → D.getD j 0 ≠ 0) : QB (sU D L x n i) (i * (k + k + 1) + (2 * (k + k + n) + 1)) := by
  rw [sU_mu h]
  have := qb_div (mu_bd (n := n) hx hL hD) (p_bd hD) (p_ne h)
  have e2 : i * (k + k + 1) = i * (k + k) + i := by rw [Nat.mul_add, Nat.mul_one]
  exact ⟨Nat.le_trans this.1 (Nat.max_le.2 ⟨Nat.le_refl _, by omega⟩), Nat.le_trans this.2 (Nat.max_le.2 ⟨Nat.le_refl _, by omega⟩)⟩
end Go.Proofs.Ytlmiadjogdfjkaa.V
