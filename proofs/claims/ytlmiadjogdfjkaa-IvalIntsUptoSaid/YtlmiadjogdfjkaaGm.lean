/- Data of rows: what the program reckons, and how large it grows. -/
import Derived.Test.YtlmiadjogdfjkaaKm
set_option linter.unusedVariables false
namespace Go.Proofs.Ytlmiadjogdfjkaa.V
open Mt Nml
/-- The sum of products, so far. -/
def dotU (xs ys : List Int) : Nat → Int
  | 0 => 0
  | i + 1 => dotU xs ys i + xs.getD i 0 * ys.getD i 0
def stepU (D Lr row : List Int) (k : Nat) (u : Int) : Int := Int.fdiv (D.getD (k + 1) 0 * u - row.getD k 0 * Lr.getD k 0) (D.getD k 0)
def redU (D Lr row : List Int) (u : Int) : Nat → Int
  | 0 => u
  | k + 1 => stepU D Lr row k (redU D Lr row u k)
def pickL (L : List (List Int)) (row : List Int) (i j : Nat) : List Int := if j < i then L.getD j [] else row
def rowU (b : List (List Int)) (D : List Int) (L : List (List Int)) (i : Nat) : Nat → List Int
  | 0 => []
  | j + 1 => rowU b D L i j ++ [redU D (pickL L (rowU b D L i j) i j) (rowU b D L i j) (dotU (b.getD i []) (b.getD j []) (b.getD i []).length) j]
/-- The data of the first rows. -/
def bld (b : List (List Int)) : Nat → Option (List Int × List (List Int))
  | 0 => some ([1], [])
  | i + 1 => match bld b i with
    | none => none
    | some (D, L) => if (rowU b D L i (i + 1)).getD i 0 ≤ 0 then none else some (D ++ [(rowU b D L i (i + 1)).getD i 0], L ++ [(rowU b D L i (i + 1)).take i])
theorem bld_prev {b : List (List Int)} {i : Nat} {x : List Int × List (List Int)} (h : bld b (i + 1) = some x) : ∃ D L, bld b i = some (D, L) ∧ 0 < (rowU b D L i (i + 1)).getD i 0 ∧ x = (D ++ [(rowU b D L i (i + 1)).getD i 0], L ++ [(rowU b D L i (i + 1)).take i]) := by
  unfold bld at h
  split at h
  · cases h
  · rename_i D L hD
    split at h
    · cases h
    · rename_i hp
      exact ⟨D, L, hD, Int.not_le.1 hp, (Option.some.inj h).symm⟩
theorem bld_le {b : List (List Int)} {i : Nat} : ∀ {n : Nat} {x : List Int × List (List Int)}, bld b n = some x → i ≤ n → ∃ y, bld b i = some y
  | 0, x, h, hi => ⟨x, by rw [show i = 0 from by omega]; exact h⟩
  | n + 1, x, h, hi => by
    rcases Nat.lt_or_eq_of_le hi with h1 | h1
    · obtain ⟨D, L, h2, _⟩ := bld_prev h
      exact bld_le h2 (by omega)
    · subst h1; exact ⟨x, h⟩
theorem bld_next {b : List (List Int)} {n i : Nat} {x : List Int × List (List Int)} {D : List Int} {L : List (List Int)} (h : bld b n = some x) (hi : i < n) (hb : bld b i = some (D, L)) : 0 < (rowU b D L i (i + 1)).getD i 0 ∧ bld b (i + 1) = some (D ++ [(rowU b D L i (i + 1)).getD i 0], L ++ [(rowU b D L i (i + 1)).take i]) := by
  obtain ⟨y, hy⟩ := bld_le h (show i + 1 ≤ n by omega)
  obtain ⟨D', L', h1, h2, h3⟩ := bld_prev hy
  rw [hb] at h1
  cases h1
  exact ⟨h2, by rw [hy, h3]⟩
/-- How large. -/
def bd (S k : Nat) : Nat := (S + 1) * 2 ^ k - 1
theorem bd_succ (S k : Nat) : bd S (k + 1) = 2 * bd S k + 1 := by
  have h : 1 ≤ (S + 1) * 2 ^ k := Nat.mul_pos (by omega) (Nat.two_pow_pos k)
  unfold bd
  rw [Nat.pow_succ, ← Nat.mul_assoc]
  omega
theorem bd_mono {S k l : Nat} (h : k ≤ l) : bd S k ≤ bd S l := by
  unfold bd
  exact Nat.sub_le_sub_right (Nat.mul_le_mul_left _ (Nat.pow_le_pow_right (by omega) h)) 1
theorem bd_zero (S : Nat) : bd S 0 = S := by unfold bd; omega
theorem zl_add_max {a b : Int} {k : Nat} (h : zl a ≤ k) (h' : zl b ≤ k) : zl (a + b) ≤ k + 1 := by
  unfold zl at *
  refine Nat.le_trans (lim_mono (Int.natAbs_add_le a b)) (lim_le ?_)
  have h1 := lt_B_lim a.natAbs
  have h2 := lt_B_lim b.natAbs
  have m1 := B_mono h
  have m2 := B_mono h'
  rw [B_succ]
  have := B_pos k
  omega
theorem zl_sub_max {a b : Int} {k : Nat} (h : zl a ≤ k) (h' : zl b ≤ k) : zl (a - b) ≤ k + 1 := by rw [Int.sub_eq_add_neg]; exact zl_add_max h (zl_neg h')
theorem zl_fdiv {x y : Int} {k : Nat} (hy : 0 < y) (h : zl x ≤ k) : zl (Int.fdiv x y) ≤ k := by rw [Int.fdiv_eq_ediv_of_nonneg _ (by omega)]; exact zl_div y h
theorem stepU_bd {D Lr row : List Int} {k : Nat} {u : Int} {S : Nat} (hp : 0 < D.getD k 0) (h1 : zl (D.getD (k + 1) 0) ≤ bd S k) (h2 : zl u ≤ bd S k) (h3 : zl (row.getD k 0) ≤ bd S k) (h4 : zl (Lr.getD k 0) ≤ bd S k) : zl (stepU D Lr row k u) ≤ bd S (k + 1) := by
  rw [bd_succ, Nat.two_mul]
  exact zl_fdiv hp (zl_sub_max (zl_mul h1 h2) (zl_mul h3 h4))
theorem gl_lt {α : Type} {l : List α} {x d : α} {k : Nat} (h : k < l.length) : (l ++ [x]).getD k d = l.getD k d := by
  rw [List.getD_eq_getElem?_getD, List.getElem?_append_left h, List.getD_eq_getElem?_getD]
theorem gl_eq {α : Type} {l : List α} {x d : α} {k : Nat} (h : k = l.length) : (l ++ [x]).getD k d = x := by
  subst h
  rw [List.getD_eq_getElem?_getD, List.getElem?_append_right (Nat.le_refl _), Nat.sub_self]; rfl
theorem take_getD {l : List Int} {i k : Nat} (h : k < i) : (l.take i).getD k 0 = l.getD k 0 := by
  rw [List.getD_eq_getElem?_getD, List.getElem?_take, if_pos h, List.getD_eq_getElem?_getD]
/-- What is so of the data of the first rows. -/
structure BI (S i : Nat) (D : List Int) (L : List (List Int)) : Prop where
  hD : D.length = i + 1
  hL : L.length = i
  pos : ∀ k, k ≤ i → 0 < D.getD k 0
  bD : ∀ k, k < i → zl (D.getD (k + 1) 0) ≤ bd S k
  lL : ∀ j, j < i → (L.getD j []).length = j
  bL : ∀ j k, j < i → k < j → zl ((L.getD j []).getD k 0) ≤ bd S k
/-- What is so of the next row, so far. -/
structure RI (S j : Nat) (row : List Int) : Prop where
  len : row.length = j
  bd : ∀ k, k < j → zl (row.getD k 0) ≤ bd S k
theorem BI.zero (S : Nat) : BI S 0 [1] [] := ⟨rfl, rfl, fun k hk => by rw [show k = 0 by omega]; decide, fun k hk => absurd hk (Nat.not_lt_zero _), fun k hk => absurd hk (Nat.not_lt_zero _), fun j k hj => absurd hj (Nat.not_lt_zero _)⟩
theorem RI.zero (S : Nat) : RI S 0 [] := ⟨rfl, fun k hk => absurd hk (Nat.not_lt_zero _)⟩
theorem RI.snoc {S j : Nat} {row : List Int} {u : Int} (h : RI S j row) (hu : zl u ≤ V.bd S j) : RI S (j + 1) (row ++ [u]) := ⟨by rw [List.length_append, h.len]; rfl, fun k hk => by
  rcases Nat.lt_or_ge k j with h1 | h1
  · rw [gl_lt (by rw [h.len]; exact h1)]; exact h.bd k h1
  · rw [gl_eq (by rw [h.len]; omega), show k = j by omega]; exact hu⟩
theorem red_bd {S i j k : Nat} {D : List Int} {L : List (List Int)} {row : List Int} {u : Int} (hB : BI S i D L) (hR : RI S j row) (hj : j ≤ i) (hu : zl u ≤ S) : k ≤ j → zl (redU D (pickL L row i j) row u k) ≤ V.bd S k := by
  induction k with
  | zero => intro _; rw [bd_zero]; exact hu
  | succ k ih =>
    intro hk
    refine stepU_bd (hB.pos k (by omega)) (hB.bD k (by omega)) (ih (by omega)) (hR.bd k (by omega)) ?_
    unfold pickL
    split
    · exact hB.bL j k (by assumption) (by omega)
    · exact hR.bd k (by omega)
theorem BI.step {S i : Nat} {D : List Int} {L : List (List Int)} {row : List Int} (h : BI S i D L) (hR : RI S (i + 1) row) (hp : 0 < row.getD i 0) : BI S (i + 1) (D ++ [row.getD i 0]) (L ++ [row.take i]) := by
  refine ⟨by rw [List.length_append, h.hD]; rfl, by rw [List.length_append, h.hL]; rfl, fun k hk => ?_, fun k hk => ?_, fun j hj => ?_, fun j k hj hk => ?_⟩
  · rcases Nat.lt_or_ge k (i + 1) with h1 | h1
    · rw [gl_lt (by rw [h.hD]; exact h1)]; exact h.pos k (by omega)
    · rw [gl_eq (by rw [h.hD]; omega)]; exact hp
  · rcases Nat.lt_or_ge k i with h1 | h1
    · rw [gl_lt (by rw [h.hD]; omega)]; exact h.bD k h1
    · rw [gl_eq (by rw [h.hD]; omega), show k = i by omega]; exact hR.bd i (by omega)
  · rcases Nat.lt_or_ge j i with h1 | h1
    · rw [gl_lt (by rw [h.hL]; exact h1)]; exact h.lL j h1
    · rw [gl_eq (by rw [h.hL]; omega), List.length_take, hR.len]; omega
  · rcases Nat.lt_or_ge j i with h1 | h1
    · rw [gl_lt (by rw [h.hL]; exact h1)]; exact h.bL j k h1 hk
    · rw [gl_eq (by rw [h.hL]; omega), take_getD (by omega)]; exact hR.bd k (by omega)
end Go.Proofs.Ytlmiadjogdfjkaa.V
