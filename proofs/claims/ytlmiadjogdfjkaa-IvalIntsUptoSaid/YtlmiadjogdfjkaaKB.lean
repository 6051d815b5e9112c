/- What a basis is; the law is awake. -/
import Derived.Test.YtlmiadjogdfjkaaKA
set_option linter.unusedVariables false
set_option linter.unusedSimpArgs false
set_option maxRecDepth 100000
namespace Go.Proofs.Ytlmiadjogdfjkaa.V
open Go.RowKit Mt Nml
/-- The most bits. -/
def mxB (l : List Int) (a : Nat) : Nat → Nat
  | 0 => a
  | j + 1 => max (mxB l a j) (nbits (l.getD j 0).natAbs)
def matB (b : List (List Int)) : Nat → Nat
  | 0 => 0
  | i + 1 => mxB (b.getD i []) (matB b i) (b.getD i []).length

theorem zl_one' {z : Int} (h : z.natAbs < 4294967296) : zl z ≤ 1 := by unfold zl; exact lim_le (by unfold B; omega)
theorem zl_dotU {xs ys : List Int} {k l : Nat} (hx : ∀ i, zl (xs.getD i 0) ≤ k) (hy : ∀ i, zl (ys.getD i 0) ≤ l) : ∀ n, zl (dotU xs ys n) ≤ n * (k + l + 1)
  | 0 => by show zl 0 ≤ _; rw [show zl 0 = 0 from by unfold zl; exact lim_zero]; omega
  | n + 1 => by
    rw [Nat.succ_mul]
    exact Nat.le_trans (zl_add_max (k := n * (k + l + 1) + (k + l)) (Nat.le_trans (zl_dotU hx hy n) (by omega)) (Nat.le_trans (zl_mul (hx n) (hy n)) (by omega))) (by omega)
theorem awake_S : ∀ i j, i < ([[1, 1], [0, 2]] : List (List Int)).length → j ≤ i → zl (dotU (([[1, 1], [0, 2]] : List (List Int)).getD i []) (([[1, 1], [0, 2]] : List (List Int)).getD j []) (([[1, 1], [0, 2]] : List (List Int)).getD i []).length) ≤ 10 := fun i j hi hj => by
  have h : ∀ i, i < 2 → ∀ j, j ≤ i → (dotU (([[1, 1], [0, 2]] : List (List Int)).getD i []) (([[1, 1], [0, 2]] : List (List Int)).getD j []) (([[1, 1], [0, 2]] : List (List Int)).getD i []).length).natAbs < 4294967296 := by decide
  exact Nat.le_trans (zl_one' (h i hi j hj)) (by decide)

end Go.Proofs.Ytlmiadjogdfjkaa.V
